/-
  PROVED HERE: contracts of functions (P5b). No condition beside each statement's own.
-/
import Derived.Test.YtjjjhibodiadbaaDoorP5a
import Derived.Test.YtjjjhibodiadbaaDoorSxa
set_option linter.unusedVariables false
set_option linter.unusedSimpArgs false
namespace Go.Proofs.P05
open Go AEv Go.Proofs
set_option maxRecDepth 100000

theorem ext38 (n : Nat) (s : List UInt8) (h : AHeap) : C (n + 1) (.fn 38) [.str s, .int .u8 (Int.ofNat 47)] h = .ret (.int .i64 (idxByte 47 s 0)) h := by
  unfold C
  kernel_rfl

theorem idxb_c (n : Nat) (s : List UInt8) (h : AHeap) : C (n + 2) (.fn 34) [.str s, .int .u8 (Int.ofNat 47)] h = .ret (.int .i64 (idxByte 47 s 0)) h :=
  fn_runF (intr := tabIntr Wk) (n := n + 1) (args := [.str s, .int .u8 (Int.ofNat 47)]) Tryd.func34 (by kernel_rfl) rfl (by kernel_rfl) (idxb (C (n + 1)) s 47 _ h (ext38 n s h)) (.inl rfl) (by kernel_rfl)

/-- Where the first slash lies. -/
def slash : List UInt8 → Int := fun s => idxByte 47 s 0

theorem sidx_c (n : Nat) (s : List UInt8) (h : AHeap) : C (n + 3) (.fn 31) [.str s, .str [47]] h = .ret (.int .i64 (slash s)) h := by
  cases hb : beqBytes [47] s with
  | true =>
    have hs : s = [47] := by
      rw [beqBytes_eq] at hb
      exact (eq_of_beq hb).symm
    have e0 : slash s = 0 := by rw [hs]; rfl
    rw [e0]
    exact fn_runF (intr := tabIntr Wk) (n := n + 2) (args := [.str s, .str [47]]) Tryd.func31 (by kernel_rfl) rfl (by kernel_rfl) (sidx_1 (C (n + 2)) s 47 0 h hb) (.inl rfl) (by kernel_rfl)
  | false =>
    exact fn_runF (intr := tabIntr Wk) (n := n + 2) (args := [.str s, .str [47]]) Tryd.func31 (by kernel_rfl) rfl (by kernel_rfl) (sidx_2 (C (n + 2)) s 47 _ h hb rfl (idxb_c n s h)) (.inl rfl) (by kernel_rfl)

theorem index_c (n : Nat) (s : List UInt8) (h : AHeap) : C (n + 4) (.fn 27) [.str s, .str [47]] h = .ret (.int .i64 (slash s)) h :=
  fn_runF (intr := tabIntr Wk) (n := n + 3) (args := [.str s, .str [47]]) Tryd.func27 (by kernel_rfl) rfl (by kernel_rfl) (index (C (n + 3)) s 47 _ h (sidx_c n s h)) (.inl rfl) (by kernel_rfl)

/-! ### The index against the pieces -/
theorem idx_pcs : ∀ (s cur : List UInt8) (i : Nat), (idxByte 47 s i = -1 ∧ pcs cur s = [cur ++ s]) ∨
    (∃ p r, s = p ++ 47 :: r ∧ idxByte 47 s i = Int.ofNat (i + p.length) ∧ pcs cur s = (cur ++ p) :: pcs [] r)
  | [], cur, i => .inl ⟨rfl, by simp [pcs]⟩
  | c :: l, cur, i => by
    by_cases hc : c = 47
    · refine .inr ⟨[], l, by simp [hc], ?_, by simp [pcs, hc]⟩
      simp [idxByte, hc]
    · have hb : Nat.beq c.toNat 47 = false := by
        cases hq : Nat.beq c.toNat 47 with
        | false => rfl
        | true => exact absurd (UInt8.toNat_inj.1 ((Nat.eq_of_beq_eq_true hq).trans rfl)) hc
      rcases idx_pcs l (cur ++ [c]) (i + 1) with ⟨h1, h2⟩ | ⟨p, r, h1, h2, h3⟩
      · exact .inl ⟨by simp [idxByte, hb, h1], by simp [pcs, hc, h2]⟩
      · refine .inr ⟨c :: p, r, by simp [h1], ?_, by simp [pcs, hc, h3]⟩
        simp only [idxByte, hb, h2, List.length_cons]
        congr 1; omega
theorem slash_pcs (s : List UInt8) : (slash s = -1 ∧ pcs [] s = [s]) ∨ (∃ p r, s = p ++ 47 :: r ∧ slash s = Int.ofNat p.length ∧ pcs [] s = p :: pcs [] r) := by
  simpa [slash] using idx_pcs s [] 0

/-! ### Split: the iterator made -/
/-- The heap after the iterator is made. -/
def itH (s : List UInt8) (h : AHeap) : AHeap := ((h.push (.cells [.str s] 9 .own 0 0)).push (.cells [.str [47]] 9 .own 0 0)).push (.cells [.int .i64 (Int.ofNat 0)] 3 .own 0 0)
theorem split_c (n : Nat) (s : List UInt8) (h : AHeap) : C (n + 2) (.fn 14) [.str s, .str [47]] h = .ret (.fn 25 [] [.ptr (h.n + 1) 0, .ptr h.n 0, .ptr (h.n + 2) 0]) (itH s h) := by
  have h20 : C (n + 1) (.fn 20) [.str s, .str [47], .int .i64 (Int.ofNat 0)] h = .ret (.fn 25 [] [.ptr (h.n + 1) 0, .ptr h.n 0, .ptr (h.n + 2) 0]) (itH s h) :=
    fn_runF (intr := tabIntr Wk) (n := n) (args := [.str s, .str [47], .int .i64 (Int.ofNat 0)]) Tryd.func20 (by kernel_rfl) rfl (by kernel_rfl) (split (C n) s [47] h) (.inl rfl) (by kernel_rfl)
  exact fn_runF (intr := tabIntr Wk) (n := n + 1) (args := [.str s, .str [47]]) Tryd.func14 (by kernel_rfl) rfl (by kernel_rfl) (splitSeq (C (n + 1)) s [47] _ h _ h20) (.inl rfl) (by kernel_rfl)
end Go.Proofs.P05

namespace Go.Proofs.P05
open Go AEv Go.Proofs
set_option maxRecDepth 100000
theorem sp_head (call : CallT → List AV → AHeap → FRes) (y : AV) (b : Nat) (h : AHeap) 
    (h1 : load1 h (b + 1) 0 = some (AV.str [47])) :
    RunF Tryd.prog Tryd.f25 none call [0] (SSt.mk [(0, y), (1, AV.ptr (b + 1) 0), (2, AV.ptr b 0), (3, AV.ptr (b + 2) 0)] [] Rc.none h) (AEx.nrm)
      (SSt.mk [(0, y), (1, AV.ptr (b + 1) 0), (2, AV.ptr b 0), (3, AV.ptr (b + 2) 0)] [] Rc.none h) :=
  sxF_run [0, 1, 2, 3] (hs := [Hint.v (AV.str [47]), Hint.b false]) (by kernel_rfl) <| .cons h1 <| .cons (by kernel_rfl : eqI (Int.ofNat (List.length [47])) (Int.ofNat 0) = false) <| .nil
theorem sp_last (call : CallT → List AV → AHeap → FRes) (y : AV) (b : Nat) (s : List UInt8) (k : Int) (h : AHeap) 
    (h1 : load1 h b 0 = some (AV.str s))
    (h2 : load1 h (b + 1) 0 = some (AV.str [47]))
    (h3 : call (CallT.fn 27) [AV.str s, AV.str [47]] h = FRes.ret (AV.int IntKind.i64 k) h)
    (h4 : ltI k (Int.ofNat 0) = true) :
    RunF Tryd.prog Tryd.f25 none call [1, 0, 0, 0] (SSt.mk [(0, y), (1, AV.ptr (b + 1) 0), (2, AV.ptr b 0), (3, AV.ptr (b + 2) 0)] [] Rc.none h) (AEx.exit 2)
      (SSt.mk [(0, y), (1, AV.ptr (b + 1) 0), (2, AV.ptr b 0), (3, AV.ptr (b + 2) 0)] [] Rc.none h) :=
  sxF_run [0, 1, 2, 3] (hs := [Hint.v (AV.str s), Hint.v (AV.str [47]), Hint.c (AV.int IntKind.i64 k) h, Hint.b true]) (by kernel_rfl) <| .cons h1 <| .cons h2 <| .cons h3 <| .cons h4 <| .nil
theorem sp_next (call : CallT → List AV → AHeap → FRes) (l : Nat) (b : Nat) (i : Nat) (s : List UInt8) (p : List UInt8) (r : List UInt8) (h : AHeap) (h' : AHeap) (h'' : AHeap) 
    (h1 : load1 h b 0 = some (AV.str s))
    (h2 : load1 h (b + 1) 0 = some (AV.str [47]))
    (h3 : call (CallT.fn 27) [AV.str s, AV.str [47]] h = FRes.ret (AV.int IntKind.i64 (Int.ofNat i)) h)
    (h4 : load1 h (b + 2) 0 = some (AV.int IntKind.i64 (Int.ofNat 0)))
    (h5 : arith BinOp.add IntKind.i64 (Int.ofNat i) (Int.ofNat 0) = some (AV.int IntKind.i64 (Int.ofNat i)))
    (h6 : sliceA Tryd.prog h 9 (AV.str s) none (some (AV.int IntKind.i64 (Int.ofNat i))) none = some (AV.str p))
    (h7 : call (CallT.yld l) [AV.str p] h = FRes.ret (AV.bool true) h')
    (h8 : load1 h' b 0 = some (AV.str s))
    (h9 : load1 h' (b + 1) 0 = some (AV.str [47]))
    (h10 : arith BinOp.add IntKind.i64 (Int.ofNat i) (Int.ofNat (List.length [47])) = some (AV.int IntKind.i64 (Int.ofNat (i + 1))))
    (h11 : sliceA Tryd.prog h' 9 (AV.str s) (some (AV.int IntKind.i64 (Int.ofNat (i + 1)))) none none = some (AV.str r))
    (h12 : some 1 = some (List.length [AV.str r]) ∧ AEv.storeCells h' b 0 [AV.str r] = some h'' ∧ AV.tup [] = AV.tup []) :
    RunF Tryd.prog Tryd.f25 none call [1, 0, 0, 0] (SSt.mk [(0, AV.yld l), (1, AV.ptr (b + 1) 0), (2, AV.ptr b 0), (3, AV.ptr (b + 2) 0)] [] Rc.none h) (AEx.nrm)
      (SSt.mk [(0, AV.yld l), (1, AV.ptr (b + 1) 0), (2, AV.ptr b 0), (3, AV.ptr (b + 2) 0)] [] Rc.none h'') :=
  sxF_run [0, 1, 2, 3] (hs := [Hint.v (AV.str s), Hint.v (AV.str [47]), Hint.c (AV.int IntKind.i64 (Int.ofNat i)) h, Hint.b false, Hint.v (AV.str s), Hint.v (AV.int IntKind.i64 (Int.ofNat 0)), Hint.v (AV.int IntKind.i64 (Int.ofNat i)), Hint.v (AV.str p), Hint.c (AV.bool true) h', Hint.b false, Hint.v (AV.str s), Hint.v (AV.str [47]), Hint.v (AV.int IntKind.i64 (Int.ofNat (i + 1))), Hint.v (AV.str r), Hint.vh (AV.tup []) h'']) (by kernel_rfl) <| .cons h1 <| .cons h2 <| .cons h3 <| .cons (by kernel_rfl : ltI (Int.ofNat i) (Int.ofNat 0) = false) <| .cons h1 <| .cons h4 <| .cons h5 <| .cons h6 <| .cons h7 <| .cons (by kernel_rfl : (!true) = false) <| .cons h8 <| .cons h9 <| .cons h10 <| .cons h11 <| .cons h12 <| .nil
theorem sp_stop (call : CallT → List AV → AHeap → FRes) (l : Nat) (b : Nat) (i : Nat) (s : List UInt8) (p : List UInt8) (h : AHeap) (h' : AHeap) 
    (h1 : load1 h b 0 = some (AV.str s))
    (h2 : load1 h (b + 1) 0 = some (AV.str [47]))
    (h3 : call (CallT.fn 27) [AV.str s, AV.str [47]] h = FRes.ret (AV.int IntKind.i64 (Int.ofNat i)) h)
    (h4 : load1 h (b + 2) 0 = some (AV.int IntKind.i64 (Int.ofNat 0)))
    (h5 : arith BinOp.add IntKind.i64 (Int.ofNat i) (Int.ofNat 0) = some (AV.int IntKind.i64 (Int.ofNat i)))
    (h6 : sliceA Tryd.prog h 9 (AV.str s) none (some (AV.int IntKind.i64 (Int.ofNat i))) none = some (AV.str p))
    (h7 : call (CallT.yld l) [AV.str p] h = FRes.ret (AV.bool false) h') :
    RunF Tryd.prog Tryd.f25 none call [1, 0, 0, 0] (SSt.mk [(0, AV.yld l), (1, AV.ptr (b + 1) 0), (2, AV.ptr b 0), (3, AV.ptr (b + 2) 0)] [] Rc.none h) (AEx.ret)
      (SSt.mk [(0, AV.yld l), (1, AV.ptr (b + 1) 0), (2, AV.ptr b 0), (3, AV.ptr (b + 2) 0)] [] Rc.none h') :=
  sxF_run [0, 1, 2, 3] (hs := [Hint.v (AV.str s), Hint.v (AV.str [47]), Hint.c (AV.int IntKind.i64 (Int.ofNat i)) h, Hint.b false, Hint.v (AV.str s), Hint.v (AV.int IntKind.i64 (Int.ofNat 0)), Hint.v (AV.int IntKind.i64 (Int.ofNat i)), Hint.v (AV.str p), Hint.c (AV.bool false) h', Hint.b true]) (by kernel_rfl) <| .cons h1 <| .cons h2 <| .cons h3 <| .cons (by kernel_rfl : ltI (Int.ofNat i) (Int.ofNat 0) = false) <| .cons h1 <| .cons h4 <| .cons h5 <| .cons h6 <| .cons h7 <| .cons (by kernel_rfl : (!false) = true) <| .nil
theorem sp_pan (call : CallT → List AV → AHeap → FRes) (l : Nat) (b : Nat) (i : Nat) (s : List UInt8) (p : List UInt8) (w : AV) (h : AHeap) (h' : AHeap) 
    (h1 : load1 h b 0 = some (AV.str s))
    (h2 : load1 h (b + 1) 0 = some (AV.str [47]))
    (h3 : call (CallT.fn 27) [AV.str s, AV.str [47]] h = FRes.ret (AV.int IntKind.i64 (Int.ofNat i)) h)
    (h4 : load1 h (b + 2) 0 = some (AV.int IntKind.i64 (Int.ofNat 0)))
    (h5 : arith BinOp.add IntKind.i64 (Int.ofNat i) (Int.ofNat 0) = some (AV.int IntKind.i64 (Int.ofNat i)))
    (h6 : sliceA Tryd.prog h 9 (AV.str s) none (some (AV.int IntKind.i64 (Int.ofNat i))) none = some (AV.str p))
    (h7 : call (CallT.yld l) [AV.str p] h = FRes.pan w h') :
    RunF Tryd.prog Tryd.f25 none call [1, 0, 0, 0] (SSt.mk [(0, AV.yld l), (1, AV.ptr (b + 1) 0), (2, AV.ptr b 0), (3, AV.ptr (b + 2) 0)] [] Rc.none h) (AEx.pan w)
      (SSt.mk [] [] Rc.none h') :=
  sxF_run [] (hs := [Hint.v (AV.str s), Hint.v (AV.str [47]), Hint.c (AV.int IntKind.i64 (Int.ofNat i)) h, Hint.b false, Hint.v (AV.str s), Hint.v (AV.int IntKind.i64 (Int.ofNat 0)), Hint.v (AV.int IntKind.i64 (Int.ofNat i)), Hint.v (AV.str p), Hint.p w h']) (by kernel_rfl) <| .cons h1 <| .cons h2 <| .cons h3 <| .cons (by kernel_rfl : ltI (Int.ofNat i) (Int.ofNat 0) = false) <| .cons h1 <| .cons h4 <| .cons h5 <| .cons h6 <| .cons h7 <| .nil
theorem sp_end (call : CallT → List AV → AHeap → FRes) (l : Nat) (b : Nat) (s : List UInt8) (v : AV) (h : AHeap) (h' : AHeap) 
    (h1 : load1 h b 0 = some (AV.str s))
    (h2 : call (CallT.yld l) [AV.str s] h = FRes.ret v h') :
    RunF Tryd.prog Tryd.f25 none call [1, 1] (SSt.mk [(0, AV.yld l), (1, AV.ptr (b + 1) 0), (2, AV.ptr b 0), (3, AV.ptr (b + 2) 0)] [] Rc.none h) (AEx.nrm)
      (SSt.mk [] [] Rc.none h') :=
  sxF_run [] (hs := [Hint.v (AV.str s), Hint.c v h']) (by kernel_rfl) <| .cons h1 <| .cons h2 <| .nil
theorem sp_endp (call : CallT → List AV → AHeap → FRes) (l : Nat) (b : Nat) (s : List UInt8) (v : AV) (h : AHeap) (h' : AHeap) 
    (h1 : load1 h b 0 = some (AV.str s))
    (h2 : call (CallT.yld l) [AV.str s] h = FRes.pan v h') :
    RunF Tryd.prog Tryd.f25 none call [1, 1] (SSt.mk [(0, AV.yld l), (1, AV.ptr (b + 1) 0), (2, AV.ptr b 0), (3, AV.ptr (b + 2) 0)] [] Rc.none h) (AEx.pan v)
      (SSt.mk [] [] Rc.none h') :=
  sxF_run [] (hs := [Hint.v (AV.str s), Hint.p v h']) (by kernel_rfl) <| .cons h1 <| .cons h2 <| .nil

/-- The iterator's registers. -/
def itG (l b : Nat) : Env := [(0, .yld l), (1, .ptr (b + 1) 0), (2, .ptr b 0), (3, .ptr (b + 2) 0)]
/-- What the iterator's cells hold, `s` still to be split. -/
def ItC (b : Nat) (s : List UInt8) (h : AHeap) : Prop := load1 h b 0 = some (.str s) ∧ load1 h (b + 1) 0 = some (.str [47]) ∧ load1 h (b + 2) 0 = some (.int .i64 (Int.ofNat 0))

theorem sp_loop (call : CallT → List AV → AHeap → FRes) (l b : Nat) (I : List UInt8 → AHeap → Prop) (Q : AHeap → Prop) (R : AV → AHeap → Prop)
    (h27 : ∀ s h, call (.fn 27) [.str s, .str [47]] h = .ret (.int .i64 (slash s)) h)
    (hI : ∀ s h, I s h → ItC b s h)
    (hstep : ∀ s p r h, I s h → s = p ++ 47 :: r → pcs [] s = p :: pcs [] r →
      (∃ h' h'', call (.yld l) [.str p] h = .ret (.bool true) h' ∧ load1 h' b 0 = some (.str s) ∧ load1 h' (b + 1) 0 = some (.str [47]) ∧ AEv.storeCells h' b 0 [.str r] = some h'' ∧ I r h'') ∨
      (∃ h', call (.yld l) [.str p] h = .ret (.bool false) h' ∧ Q h') ∨ (∃ w h', call (.yld l) [.str p] h = .pan w h' ∧ R w h')) :
    ∀ (k : Nat) (s : List UInt8) (h : AHeap), s.length ≤ k → s.length ≤ 50000 → I s h →
      (∃ s' h', LoopF Tryd.prog Tryd.f25 none call [1, 0, 0] (k + 1) ⟨itG l b, [], .none, h⟩ (.exit 2) ⟨itG l b, [], .none, h'⟩ ∧ I s' h' ∧ pcs [] s' = [s']) ∨
      (∃ h', LoopF Tryd.prog Tryd.f25 none call [1, 0, 0] (k + 1) ⟨itG l b, [], .none, h⟩ .ret ⟨itG l b, [], .none, h'⟩ ∧ Q h') ∨
      (∃ w h', LoopF Tryd.prog Tryd.f25 none call [1, 0, 0] (k + 1) ⟨itG l b, [], .none, h⟩ (.pan w) ⟨[], [], .none, h'⟩ ∧ R w h')
  | k, s, h, hk, hs, hi => by
    obtain ⟨c1, c2, c3⟩ := hI s h hi
    rcases slash_pcs s with ⟨e1, e2⟩ | ⟨p, r, e1, e2, e3⟩
    · exact .inl ⟨s, h, .exit (sp_last call (.yld l) b s (-1) h c1 c2 (by rw [h27, e1]) (by kernel_rfl)) (by simp), hi, e2⟩
    · have hl : s.length = p.length + (r.length + 1) := by rw [e1]; simp
      have a0 : arith .add .i64 (Int.ofNat p.length) (Int.ofNat 0) = some (.int .i64 (Int.ofNat p.length)) := addN (j := 0) (by omega)
      have a1 : arith .add .i64 (Int.ofNat p.length) (Int.ofNat (List.length [(47 : UInt8)])) = some (.int .i64 (Int.ofNat (p.length + 1))) := addN (j := 1) (by omega)
      have q1 : sliceA Tryd.prog h 9 (.str s) none (some (.int .i64 (Int.ofNat p.length))) none = some (.str p) := by
        rw [slice_str_to str_under (by omega), e1]; simp
      have c27 : call (.fn 27) [.str s, .str [47]] h = .ret (.int .i64 (Int.ofNat p.length)) h := by rw [h27, e2]
      rcases hstep s p r h hi e1 e3 with ⟨h', h'', y1, y2, y3, y4, y5⟩ | ⟨h', y1, y2⟩ | ⟨w, h', y1, y2⟩
      · have q2 : sliceA Tryd.prog h' 9 (.str s) (some (.int .i64 (Int.ofNat (p.length + 1)))) none none = some (.str r) := by
          rw [slice_str_from str_under (by omega), e1]
          congr 2
          rw [List.drop_append]; simp
        have hn := sp_next call l b p.length s p r h h' h'' c1 c2 c27 c3 a0 q1 y1 y2 y3 a1 q2 ⟨rfl, y4, rfl⟩
        cases k with
        | zero => omega
        | succ k =>
          rcases sp_loop call l b I Q R h27 hI hstep k r h'' (by omega) (by omega) y5 with ⟨s', x, z1, z2⟩ | ⟨x, z1, z2⟩ | ⟨w, x, z1, z2⟩
          · exact .inl ⟨s', x, .step hn z1, z2⟩
          · exact .inr (.inl ⟨x, .step hn z1, z2⟩)
          · exact .inr (.inr ⟨w, x, .step hn z1, z2⟩)
      · exact .inr (.inl ⟨h', .exit (sp_stop call l b p.length s p h h' c1 c2 c27 c3 a0 q1 y1) (by simp), y2⟩)
      · exact .inr (.inr ⟨w, h', .exit (sp_pan call l b p.length s p w h h' c1 c2 c27 c3 a0 q1 y1) (by simp), y2⟩)
end Go.Proofs.P05

namespace Go.Proofs.P05
open Go AEv Go.Proofs
set_option maxRecDepth 100000
theorem may_0 (call : CallT → List AV → AHeap → FRes) (s : List UInt8) (h : AHeap)  :
    RunF Tryd.prog Tryd.f9 none call [0] (SSt.mk [(0, AV.str s)] [] Rc.none h) (AEx.nrm)
      (SSt.mk [(0, AV.str s), (2, AV.ptr (AHeap.n h) 0)] [] Rc.none (AHeap.push h (AObj.cells [AV.bool false] 4 BK.own 0 0))) :=
  sxF_run [0, 2, 3] (hs := []) (by kernel_rfl) <| .nil
theorem may_1 (call : CallT → List AV → AHeap → FRes) (s : List UInt8) (a : Nat) (h : AHeap) (h' : AHeap) 
    (h1 : some 1 = some (List.length [AV.int IntKind.i64 (Int.ofNat 0)]) ∧ AEv.storeCells (AHeap.push h (AObj.cells [AV.int IntKind.i64 (Int.ofNat 0)] 3 BK.own 0 0)) (AHeap.n h) 0 [AV.int IntKind.i64 (Int.ofNat 0)] = some h' ∧ AV.tup [] = AV.tup []) :
    RunF Tryd.prog Tryd.f9 none call [1, 0] (SSt.mk [(0, AV.str s), (2, AV.ptr a 0)] [] Rc.none h) (AEx.nrm)
      (SSt.mk [(0, AV.str s), (2, AV.ptr a 0), (3, AV.ptr (AHeap.n h) 0)] [] Rc.none h') :=
  sxF_run [0, 2, 3] (hs := [Hint.vh (AV.tup []) h']) (by kernel_rfl) <| .cons h1 <| .nil
theorem may_sp (call : CallT → List AV → AHeap → FRes) (s : List UInt8) (a : Nat) (b : Nat) (v : AV) (h : AHeap) (h' : AHeap) 
    (h1 : call (CallT.fn 14) [AV.str s, AV.str [47]] h = FRes.ret v h') :
    RunF Tryd.prog Tryd.f9 none call [1, 1, 0, 0] (SSt.mk [(0, AV.str s), (2, AV.ptr a 0), (3, AV.ptr b 0)] [] Rc.none h) (AEx.nrm)
      (SSt.mk [(2, AV.ptr a 0), (3, AV.ptr b 0), (6, v)] [] Rc.none h') :=
  sxF_run [2, 3, 6] (hs := [Hint.c v h']) (by kernel_rfl) <| .cons h1 <| .nil
theorem may_as (call : CallT → List AV → AHeap → FRes) (l : Nat) (p : List UInt8) (a : Nat) (b : Nat) (h : AHeap)  :
    RunF Tryd.prog Tryd.f9 (some l) call [1, 1, 0, 1, 0, 0] (SSt.mk [(7, AV.str p), (2, AV.ptr a 0), (3, AV.ptr b 0)] [] Rc.none h) (AEx.nrm)
      (SSt.mk [(2, AV.ptr a 0), (3, AV.ptr b 0), (4, AV.str p)] [] Rc.none h) :=
  sxF_run [2, 3, 4] (hs := []) (by kernel_rfl) <| .nil
theorem may_no (call : CallT → List AV → AHeap → FRes) (l : Nat) (p : List UInt8) (a : Nat) (b : Nat) (h : AHeap) (h' : AHeap) 
    (h1 : call (CallT.fn 16) [AV.str p] h = FRes.ret (AV.bool false) h)
    (h2 : some 1 = some (List.length [AV.bool false]) ∧ AEv.storeCells h a 0 [AV.bool false] = some h' ∧ AV.tup [] = AV.tup []) :
    RunF Tryd.prog Tryd.f9 (some l) call [1, 1, 0, 1, 0, 1] (SSt.mk [(4, AV.str p), (2, AV.ptr a 0), (3, AV.ptr b 0)] [] Rc.none h) (AEx.ret)
      (SSt.mk [(2, AV.ptr a 0), (3, AV.ptr b 0)] [] Rc.none h') :=
  sxF_run [2, 3] (hs := [Hint.c (AV.bool false) h, Hint.b true, Hint.vh (AV.tup []) h']) (by kernel_rfl) <| .cons h1 <| .cons (by kernel_rfl : (!false) = true) <| .cons h2 <| .nil
theorem may_yes (call : CallT → List AV → AHeap → FRes) (l : Nat) (p : List UInt8) (a : Nat) (b : Nat) (i : Nat) (h : AHeap) (h' : AHeap) 
    (h1 : call (CallT.fn 16) [AV.str p] h = FRes.ret (AV.bool true) h)
    (h2 : load1 h b 0 = some (AV.int IntKind.i64 (Int.ofNat i)))
    (h3 : arith BinOp.add IntKind.i64 (Int.ofNat i) (Int.ofNat 1) = some (AV.int IntKind.i64 (Int.ofNat (i + 1))))
    (h4 : some 1 = some (List.length [AV.int IntKind.i64 (Int.ofNat (i + 1))]) ∧ AEv.storeCells h b 0 [AV.int IntKind.i64 (Int.ofNat (i + 1))] = some h' ∧ AV.tup [] = AV.tup []) :
    RunF Tryd.prog Tryd.f9 (some l) call [1, 1, 0, 1, 0, 1] (SSt.mk [(4, AV.str p), (2, AV.ptr a 0), (3, AV.ptr b 0)] [] Rc.none h) (AEx.nrm)
      (SSt.mk [(2, AV.ptr a 0), (3, AV.ptr b 0)] [] Rc.none h') :=
  sxF_run [2, 3] (hs := [Hint.c (AV.bool true) h, Hint.b false, Hint.v (AV.int IntKind.i64 (Int.ofNat i)), Hint.v (AV.int IntKind.i64 (Int.ofNat (i + 1))), Hint.vh (AV.tup []) h']) (by kernel_rfl) <| .cons h1 <| .cons (by kernel_rfl : (!true) = false) <| .cons h2 <| .cons h3 <| .cons h4 <| .nil
theorem may_end (call : CallT → List AV → AHeap → FRes) (a : Nat) (b : Nat) (i : Nat) (h : AHeap) (h' : AHeap) 
    (h1 : load1 h b 0 = some (AV.int IntKind.i64 (Int.ofNat i)))
    (h2 : some 1 = some (List.length [AV.bool (leI (Int.ofNat i) (Int.ofNat 8))]) ∧ AEv.storeCells h a 0 [AV.bool (leI (Int.ofNat i) (Int.ofNat 8))] = some h' ∧ AV.tup [] = AV.tup []) :
    RunF Tryd.prog Tryd.f9 none call [1, 1, 1] (SSt.mk [(2, AV.ptr a 0), (3, AV.ptr b 0)] [] Rc.none h) (AEx.ret)
      (SSt.mk [(2, AV.ptr a 0)] [] Rc.none h') :=
  sxF_run [2] (hs := [Hint.v (AV.int IntKind.i64 (Int.ofNat i)), Hint.vh (AV.tup []) h']) (by kernel_rfl) <| .cons h1 <| .cons h2 <| .nil

/-- The loop's parts in path.May. -/
noncomputable def mayAs : Code := sub (bodyOf Tryd.f9) [1, 1, 0, 1, 0, 0]
noncomputable def mayBd : Code := sub (bodyOf Tryd.f9) [1, 1, 0, 1, 0, 1]
/-- A round of path.May's loop: `a` where the answer lies, `c` where the count lies. -/
theorem may_round (call : CallT → List AV → AHeap → FRes) (l a c i df need : Nat) (p : List UInt8) (x : Bool) (h : AHeap) (r : Tr) (hn : need = needFn Tryd.f9)
    (hseg : ∀ h, call (.fn 16) [.str p] h = .ret (.bool (segL p)) h) (hi : i ≤ 100000)
    (hg : h.get l = some (.loop .ready none need r [7] mayAs mayBd df)) (hm : Mod r [(2, .ptr a 0), (3, .ptr c 0)])
    (ga : h.get a = some (.cells [.bool x] 4 .own 0 0)) (gc : h.get c = some (.cells [.int .i64 (Int.ofNat i)] 3 .own 0 0)) (hla : l ≠ a) (hlc : l ≠ c) :
    evRound Tryd.prog call l [.str p] h = if segL p then roundR l .nrm need r [7] mayAs mayBd df ((h.set l (some (.loop .busy none need r [7] mayAs mayBd df))).set c (some (.cells [.int .i64 (Int.ofNat (i + 1))] 3 .own 0 0)))
      else roundR l .ret need r [7] mayAs mayBd df ((h.set l (some (.loop .busy none need r [7] mayAs mayBd df))).set a (some (.cells [.bool false] 4 .own 0 0))) := by
  subst hn
  have hla' := Ne.symm hla
  have hlc' := Ne.symm hlc
  have has0 := may_as call l p a c h
  have has : RunP Tryd.prog (needFn Tryd.f9) (some l) call mayAs ⟨put 7 (.str p) [(2, .ptr a 0), (3, .ptr c 0)], [], .none, h⟩ .nrm ⟨[(2, .ptr a 0), (3, .ptr c 0), (4, .str p)], [], .none, h⟩ :=
    RunP.pre (st1 := ⟨put 7 (.str p) [(2, .ptr a 0), (3, .ptr c 0)], [], .none, h⟩) has0 ⟨rfl, rfl, rfl, trivial⟩ rfl rfl rfl
  have q1 : (h.set l (some (.loop .busy none (needFn Tryd.f9) r [7] mayAs mayBd df))).get a = some (.cells [.bool x] 4 .own 0 0) := by rw [AHeap.get_set, if_neg hla']; exact ga
  have q2 : (h.set l (some (.loop .busy none (needFn Tryd.f9) r [7] mayAs mayBd df))).get c = some (.cells [.int .i64 (Int.ofNat i)] 3 .own 0 0) := by rw [AHeap.get_set, if_neg hlc']; exact gc
  cases hs : segL p with
  | true =>
    have hb := may_yes call l p a c i _ _ (by rw [hseg, hs]) (cell_load q2) (addN (j := 1) (by omega)) ⟨rfl, cell_store rfl q2, rfl⟩
    have hb' := RunP.pre (st1 := ⟨[(2, .ptr a 0), (3, .ptr c 0), (4, .str p)], [], .none, h.set l (some (.loop .busy none (needFn Tryd.f9) r [7] mayAs mayBd df))⟩) hb ⟨rfl, rfl, rfl, trivial⟩ rfl rfl rfl
    exact round1 hg hm has hb' (by rw [AHeap.get_set, if_neg hlc, AHeap.get_set, if_pos rfl])
  | false =>
    have hb := may_no call l p a c _ _ (by rw [hseg, hs]) ⟨rfl, cell_store rfl q1, rfl⟩
    have hb' := RunP.pre (st1 := ⟨[(2, .ptr a 0), (3, .ptr c 0), (4, .str p)], [], .none, h.set l (some (.loop .busy none (needFn Tryd.f9) r [7] mayAs mayBd df))⟩) hb ⟨rfl, rfl, rfl, trivial⟩ rfl rfl rfl
    exact round1 hg hm has hb' (by rw [AHeap.get_set, if_neg hla, AHeap.get_set, if_pos rfl])
end Go.Proofs.P05

namespace Go.Proofs.P05
open Go AEv Go.Proofs
set_option maxRecDepth 100000

/-- strings.SplitSeq's iterator over the yield's behaviour. -/
theorem sp_c (n l b : Nat) (I : List UInt8 → AHeap → Prop) (Q : AHeap → Prop) (R : AV → AHeap → Prop)
    (h27 : ∀ s h, C n (.fn 27) [.str s, .str [47]] h = .ret (.int .i64 (slash s)) h)
    (hI : ∀ s h, I s h → ItC b s h)
    (hstep : ∀ s p r h, I s h → s = p ++ 47 :: r → pcs [] s = p :: pcs [] r →
      (∃ h' h'', C n (.yld l) [.str p] h = .ret (.bool true) h' ∧ load1 h' b 0 = some (.str s) ∧ load1 h' (b + 1) 0 = some (.str [47]) ∧ AEv.storeCells h' b 0 [.str r] = some h'' ∧ I r h'') ∨
      (∃ h', C n (.yld l) [.str p] h = .ret (.bool false) h' ∧ Q h') ∨ (∃ w h', C n (.yld l) [.str p] h = .pan w h' ∧ R w h'))
    (hlast : ∀ s h, I s h → pcs [] s = [s] → (∃ v h', C n (.yld l) [.str s] h = .ret v h' ∧ Q h') ∨ (∃ w h', C n (.yld l) [.str s] h = .pan w h' ∧ R w h'))
    (s : List UInt8) (h : AHeap) (hs : s.length ≤ 50000) (hi : I s h) :
    (∃ h', C (n + 1) (.fn 25) [.yld l, .ptr (b + 1) 0, .ptr b 0, .ptr (b + 2) 0] h = .ret (.tup []) h' ∧ Q h') ∨
    (∃ w h', C (n + 1) (.fn 25) [.yld l, .ptr (b + 1) 0, .ptr b 0, .ptr (b + 2) 0] h = .pan w h' ∧ R w h') := by
  have h0 := sp_head (C n) (.yld l) b h (hI s h hi).2.1
  have fin : ∀ {e : AEx} {Γ : Env} {h' : AHeap}, (e = .ret ∨ e = .nrm) → RunF Tryd.prog Tryd.f25 none (C n) [1] ⟨itG l b, [], .none, h⟩ e ⟨Γ, [], .none, h'⟩ → resS Tryd.prog (needFn Tryd.f25) Tryd.f25 Γ h' = some (.tup []) →
      C (n + 1) (.fn 25) [.yld l, .ptr (b + 1) 0, .ptr b 0, .ptr (b + 2) 0] h = .ret (.tup []) h' := fun he hr hres =>
    fn_runF (intr := tabIntr Wk) (n := n) (args := [.yld l, .ptr (b + 1) 0, .ptr b 0, .ptr (b + 2) 0]) Tryd.func25 (by kernel_rfl) rfl (by kernel_rfl) (RunF.seq (p := []) (by kernel_rfl) h0 hr) he hres
  have pan : ∀ {w : AV} {Γ : Env} {h' : AHeap}, RunF Tryd.prog Tryd.f25 none (C n) [1] ⟨itG l b, [], .none, h⟩ (.pan w) ⟨Γ, [], .none, h'⟩ →
      C (n + 1) (.fn 25) [.yld l, .ptr (b + 1) 0, .ptr b 0, .ptr (b + 2) 0] h = .pan w h' := fun hr =>
    fn_panF (intr := tabIntr Wk) (n := n) (args := [.yld l, .ptr (b + 1) 0, .ptr b 0, .ptr (b + 2) 0]) Tryd.func25 (by kernel_rfl) rfl (by kernel_rfl) (RunF.seq (p := []) (by kernel_rfl) h0 hr)
  rcases sp_loop (C n) l b I Q R h27 hI hstep s.length s h (Nat.le_refl _) hs hi with ⟨s', h', z1, z2, z3⟩ | ⟨h', z1, z2⟩ | ⟨w, h', z1, z2⟩
  · have hb := RunF.block (p := [1, 0]) (id := 2) (by kernel_rfl) (LoopF.run (p := [1, 0, 0]) (by kernel_rfl) z1 (by omega))
    have c1 := (hI s' h' z2).1
    rcases hlast s' h' z2 z3 with ⟨v, h'', y1, y2⟩ | ⟨w, h'', y1, y2⟩
    · exact .inl ⟨h'', fin (.inr rfl) (RunF.seq (p := [1]) (by kernel_rfl) hb (sp_end (C n) l b s' v h' h'' c1 y1)) (by kernel_rfl), y2⟩
    · exact .inr ⟨w, h'', pan (RunF.seq (p := [1]) (by kernel_rfl) hb (sp_endp (C n) l b s' w h' h'' c1 y1)), y2⟩
  · have hb := RunF.blockx (p := [1, 0]) (id := 2) (by kernel_rfl) (LoopF.run (p := [1, 0, 0]) (by kernel_rfl) z1 (by omega)) (by simp)
    exact .inl ⟨h', fin (.inl rfl) (RunF.seqx (p := [1]) (by kernel_rfl) hb (by simp)) (by kernel_rfl), z2⟩
  · have hb := RunF.blockx (p := [1, 0]) (id := 2) (by kernel_rfl) (LoopF.run (p := [1, 0, 0]) (by kernel_rfl) z1 (by omega)) (by simp)
    exact .inr ⟨w, h', pan (RunF.seqx (p := [1]) (by kernel_rfl) hb (by simp)), z2⟩
end Go.Proofs.P05

namespace Go.Proofs.P05
open Go AEv Go.Proofs
set_option maxRecDepth 100000
/-- path.May's answer is read where it lies. -/
theorem may_res (a : Nat) (x : Bool) (h : AHeap) (hg : h.get a = some (.cells [.bool x] 4 .own 0 0)) : resS Tryd.prog (needFn Tryd.f9) Tryd.f9 [(2, .ptr a 0)] h = some (.bool x) := by
  have e1 : Tryd.f9.results.toList = [.cell 2 4] := by kernel_rfl
  have e2 : Nat.testBit (needFn Tryd.f9) 2 = true := by kernel_rfl
  have e3 : isAggT Tryd.prog 4 = some false := by kernel_rfl
  have e4 : lk 2 [(2, AV.ptr a 0)] = some (.ptr a 0) := rfl
  simp only [resS, e1, allA, oneS, e2, e3, e4, cell_load hg]
end Go.Proofs.P05

namespace Go.Proofs.P05
open Go AEv Go.Proofs
set_option maxRecDepth 100000

/-- path.May's loop, before a round: `N` the place from which its blocks lie. -/
structure MayI (s : List UInt8) (N : Nat) (h : AHeap) (r : Tr) (s' : List UInt8) (x : AHeap) : Prop where
  cnt : ∃ i, i + (pcs [] s').length = (pcs [] s).length ∧ x.get (N + 1) = some (.cells [.int .i64 (Int.ofNat i)] 3 .own 0 0)
  seg : (pcs [] s).all segL = (pcs [] s').all segL
  ans : x.get N = some (.cells [.bool false] 4 .own 0 0)
  txt : x.get (N + 2) = some (.cells [.str s'] 9 .own 0 0)
  sep : x.get (N + 3) = some (.cells [.str [47]] 9 .own 0 0)
  num : x.get (N + 4) = some (.cells [.int .i64 (Int.ofNat 0)] 3 .own 0 0)
  dfr : x.get (N + 5) = some (.defrd (some []))
  lop : x.get (N + 6) = some (.loop .ready none (needFn Tryd.f9) r [7] mayAs mayBd (N + 5))
  ext : Ext N h x
/-- .. behind it. -/
structure MayQ (s : List UInt8) (N : Nat) (h : AHeap) (r : Tr) (x : AHeap) : Prop where
  ans : x.get N = some (.cells [.bool false] 4 .own 0 0)
  dfr : x.get (N + 5) = some (.defrd (some []))
  fin : ((pcs [] s).all segL = true ∧ x.get (N + 1) = some (.cells [.int .i64 (Int.ofNat (pcs [] s).length)] 3 .own 0 0) ∧ x.get (N + 6) = some (.loop .ready none (needFn Tryd.f9) r [7] mayAs mayBd (N + 5))) ∨
    ((pcs [] s).all segL = false ∧ x.get (N + 6) = some (.loop .done (some .ret) (needFn Tryd.f9) r [7] mayAs mayBd (N + 5)))
  ext : Ext N h x

theorem may_its {s : List UInt8} {N : Nat} {h : AHeap} {r : Tr} {s' : List UInt8} {x : AHeap} (hi : MayI s N h r s' x) : ItC (N + 2) s' x := ⟨cell_load hi.txt, cell_load hi.sep, cell_load hi.num⟩

theorem may_step (m : Nat) {s : List UInt8} {N : Nat} {h : AHeap} {r : Tr} (hs : s.length ≤ 50000) (hl : (pcs [] s).length ≤ 100000) (hm : AEv.Mod r [(2, .ptr N 0), (3, .ptr (N + 1) 0)]) {s' p t : List UInt8} {x : AHeap} (hi : MayI s N h r s' x) (hp : pcs [] s' = p :: pcs [] t) (hpl : p.length ≤ 50000) :
    (∃ h' h'', C (m + 3) (.yld (N + 6)) [.str p] x = .ret (.bool true) h' ∧ load1 h' (N + 2) 0 = some (.str s') ∧ load1 h' (N + 2 + 1) 0 = some (.str [47]) ∧ AEv.storeCells h' (N + 2) 0 [.str t] = some h'' ∧ MayI s N h r t h'') ∨
    (∃ h', C (m + 3) (.yld (N + 6)) [.str p] x = .ret (.bool false) h' ∧ MayQ s N h r h') ∨ (∃ w h', C (m + 3) (.yld (N + 6)) [.str p] x = .pan w h' ∧ False) := by
  obtain ⟨i, c1, c2⟩ := hi.cnt
  have hlen : i ≤ 100000 := by omega
  have hr := may_round (C (m + 2)) (N + 6) N (N + 1) i (N + 5) _ p false x r rfl (fun h => seg_c m p h hpl) hlen hi.lop hm hi.ans c2 (by omega) (by omega)
  have hy : C (m + 3) (.yld (N + 6)) [.str p] x = evRound Tryd.prog (C (m + 2)) (N + 6) [.str p] x := rfl
  rw [hy, hr]
  have hlen2 : (pcs [] s').length = (pcs [] t).length + 1 := by rw [hp]; rfl
  have hall : (pcs [] s').all segL = (segL p && (pcs [] t).all segL) := by rw [hp]; rfl
  have n1 : N ≠ N + 6 := by omega
  have n2 : N ≠ N + 1 := by omega
  have n3 : N ≠ N + 2 := by omega
  cases hsp : segL p with
  | true =>
    have he := hi.ext
    refine .inl ⟨_, _, rfl, ?_, ?_, cell_store (x := .str s') (t := 9) rfl ?_, ?_⟩
    · refine cell_load (t := 9) ?_
      simp only [AHeap.get_set]; rw [if_neg (by omega), if_neg (by omega), if_neg (by omega)]; exact hi.txt
    · refine cell_load (t := 9) ?_
      simp only [AHeap.get_set]; rw [if_neg (by omega), if_neg (by omega), if_neg (by omega)]; exact hi.sep
    · simp only [AHeap.get_set]; rw [if_neg (by omega), if_neg (by omega), if_neg (by omega)]; exact hi.txt
    · refine ⟨⟨i + 1, by omega, ?_⟩, ?_, ?_, ?_, ?_, ?_, ?_, ?_, ?_⟩
      · simp only [AHeap.get_set]; rw [if_neg (by omega), if_neg (by omega), if_pos trivial]
      · rw [hi.seg, hall, hsp]; rfl
      · simp only [AHeap.get_set]; rw [if_neg (by omega), if_neg (by omega), if_neg (by omega), if_neg (by omega)]; exact hi.ans
      · simp only [AHeap.get_set]; rw [if_pos trivial]
      · simp only [AHeap.get_set]; rw [if_neg (by omega), if_neg (by omega), if_neg (by omega), if_neg (by omega)]; exact hi.sep
      · simp only [AHeap.get_set]; rw [if_neg (by omega), if_neg (by omega), if_neg (by omega), if_neg (by omega)]; exact hi.num
      · simp only [AHeap.get_set]; rw [if_neg (by omega), if_neg (by omega), if_neg (by omega), if_neg (by omega)]; exact hi.dfr
      · simp only [AHeap.get_set]; rw [if_neg (by omega), if_pos trivial]
      · exact (((he.trans (Nat.le_refl N) (Ext.set (by omega) _)).trans (Nat.le_refl N) (Ext.set (by omega) _)).trans (Nat.le_refl N) (Ext.set (by omega) _)).trans (Nat.le_refl N) (Ext.set (by omega) _)
  | false =>
    have he := hi.ext
    refine .inr (.inl ⟨_, rfl, ?_, ?_, .inr ⟨?_, ?_⟩, ?_⟩)
    · simp only [AHeap.get_set]; rw [if_neg (by omega), if_pos trivial]
    · simp only [AHeap.get_set]; rw [if_neg (by omega), if_neg (by omega), if_neg (by omega)]; exact hi.dfr
    · rw [hi.seg, hall, hsp]; rfl
    · simp only [AHeap.get_set]; rw [if_pos trivial]
    · exact ((he.trans (Nat.le_refl N) (Ext.set (by omega) _)).trans (Nat.le_refl N) (Ext.set (by omega) _)).trans (Nat.le_refl N) (Ext.set (by omega) _)
end Go.Proofs.P05

namespace Go.Proofs.P05
open Go AEv Go.Proofs
set_option maxRecDepth 100000

theorem may_last (m : Nat) {s : List UInt8} {N : Nat} {h : AHeap} {r : Tr} (hl : (pcs [] s).length ≤ 100000) (hm : AEv.Mod r [(2, .ptr N 0), (3, .ptr (N + 1) 0)]) {s' : List UInt8} {x : AHeap} (hi : MayI s N h r s' x) (hp : pcs [] s' = [s']) (hpl : s'.length ≤ 50000) :
    (∃ v h', C (m + 3) (.yld (N + 6)) [.str s'] x = .ret v h' ∧ MayQ s N h r h') ∨ (∃ w h', C (m + 3) (.yld (N + 6)) [.str s'] x = .pan w h' ∧ False) := by
  obtain ⟨i, c1, c2⟩ := hi.cnt
  have hlen : i ≤ 100000 := by omega
  have hr := may_round (C (m + 2)) (N + 6) N (N + 1) i (N + 5) _ s' false x r rfl (fun h => seg_c m s' h hpl) hlen hi.lop hm hi.ans c2 (by omega) (by omega)
  have hy : C (m + 3) (.yld (N + 6)) [.str s'] x = evRound Tryd.prog (C (m + 2)) (N + 6) [.str s'] x := rfl
  rw [hy, hr]
  have hlen2 : (pcs [] s').length = 1 := by rw [hp]; rfl
  have hall : (pcs [] s').all segL = segL s' := by rw [hp]; simp
  have he := hi.ext
  cases hsp : segL s' with
  | true =>
    refine .inl ⟨_, _, rfl, ?_, ?_, .inl ⟨?_, ?_, ?_⟩, ?_⟩
    · simp only [AHeap.get_set]; rw [if_neg (by omega), if_neg (by omega), if_neg (by omega)]; exact hi.ans
    · simp only [AHeap.get_set]; rw [if_neg (by omega), if_neg (by omega), if_neg (by omega)]; exact hi.dfr
    · rw [hi.seg, hall, hsp]
    · simp only [AHeap.get_set]; rw [if_neg (by omega), if_pos trivial]
      have : i + 1 = (pcs [] s).length := by omega
      rw [this]
    · simp only [AHeap.get_set]; rw [if_pos trivial]
    · exact ((he.trans (Nat.le_refl N) (Ext.set (by omega) _)).trans (Nat.le_refl N) (Ext.set (by omega) _)).trans (Nat.le_refl N) (Ext.set (by omega) _)
  | false =>
    refine .inl ⟨_, _, rfl, ?_, ?_, .inr ⟨?_, ?_⟩, ?_⟩
    · simp only [AHeap.get_set]; rw [if_neg (by omega), if_pos trivial]
    · simp only [AHeap.get_set]; rw [if_neg (by omega), if_neg (by omega), if_neg (by omega)]; exact hi.dfr
    · rw [hi.seg, hall, hsp]
    · simp only [AHeap.get_set]; rw [if_pos trivial]
    · exact ((he.trans (Nat.le_refl N) (Ext.set (by omega) _)).trans (Nat.le_refl N) (Ext.set (by omega) _)).trans (Nat.le_refl N) (Ext.set (by omega) _)
end Go.Proofs.P05

namespace Go.Proofs.P05
open Go AEv Go.Proofs
set_option maxRecDepth 100000

theorem may_end' (call : CallT → List AV → AHeap → FRes) (a : Nat) (b : Nat) (i : Nat) (d : List ADef) (h : AHeap) (h' : AHeap) 
    (h1 : load1 h b 0 = some (AV.int IntKind.i64 (Int.ofNat i)))
    (h2 : some 1 = some (List.length [AV.bool (leI (Int.ofNat i) (Int.ofNat 8))]) ∧ AEv.storeCells h a 0 [AV.bool (leI (Int.ofNat i) (Int.ofNat 8))] = some h' ∧ AV.tup [] = AV.tup []) :
    RunF Tryd.prog Tryd.f9 none call [1, 1, 1] (SSt.mk [(2, AV.ptr a 0), (3, AV.ptr b 0)] d Rc.none h) (AEx.ret)
      (SSt.mk [(2, AV.ptr a 0)] d Rc.none h') :=
  sxF_run [2] (hs := [Hint.v (AV.int IntKind.i64 (Int.ofNat i)), Hint.vh (AV.tup []) h']) (by kernel_rfl) <| .cons h1 <| .cons h2 <| .nil
theorem pcs_count : ∀ (s cur : List UInt8), (pcs cur s).length ≤ s.length + 1
  | [], cur => by simp [pcs]
  | c :: s, cur => by
    simp only [pcs]
    split
    · have := pcs_count s []
      simp; omega
    · have := pcs_count s (cur ++ [c])
      simp; omega
theorem may_leave (call : CallT → List AV → AHeap → FRes) (x : Bool) (N : Nat) (r : Tr) (q : Rc) (h : AHeap) (hm : AEv.Mod r [(2, .ptr N 0)]) (hd : h.get (N + 5) = some (.defrd (some []))) (ha : h.get N = some (.cells [.bool x] 4 .own 0 0)) :
    leaveA Tryd.prog call Tryd.f9 (.ok .ret r [.collected (N + 5)] q h) = .ret (.bool x) (h.set (N + 5) (some (.defrd none))) := by
  have hr := resS_ok hm (may_res N x (h.set (N + 5) (some (.defrd none))) (by rw [AHeap.get_set, if_neg (by omega)]; exact ha))
  simp only [leaveA, evDefers, hd, List.nil_append, hr]

/-- path.May. -/
theorem may_c (m : Nat) (s : List UInt8) (h : AHeap) (hs : s.length ≤ 50000) : ∃ h', C (m + 8) (.fn 9) [.str s] h = .ret (.bool (mayL s)) h' ∧ Ext h.n h h' := by
  have hpl : (pcs [] s).length ≤ 100000 := by
    have := pcs_count s []
    omega
  have hplen : ∀ x ∈ pcs [] s, x.length ≤ 50000 := pcs_len s [] 50000 (by simpa using hs)
  -- the heap ahead of the loop
  let h1 := h.push (.cells [.bool false] 4 .own 0 0)
  let h2 := (h1.push (.cells [.int .i64 (Int.ofNat 0)] 3 .own 0 0)).set (h.n + 1) (some (.cells [.int .i64 (Int.ofNat 0)] 3 .own 0 0))
  let h3 := itH s h2
  have n1 : h1.n = h.n + 1 := rfl
  have n2 : h2.n = h.n + 2 := rfl
  have n3 : h3.n = h.n + 5 := rfl
  have e2 : Ext h.n h h2 := (Ext.push (Nat.le_refl _) _).trans (Nat.le_refl _) ((Ext.push (Nat.le_succ _) _).trans (Nat.le_refl _) (Ext.set (by omega) _))
  have e3 : Ext h.n h h3 := e2.trans (Nat.le_refl _) (((Ext.push (by omega) _).trans (Nat.le_refl _) (Ext.push (by simp [h2, h1]; omega) _)).trans (Nat.le_refl _) (Ext.push (by simp [h2, h1]; omega) _))
  have c2 : AEv.storeCells (h1.push (.cells [.int .i64 (Int.ofNat 0)] 3 .own 0 0)) h1.n 0 [.int .i64 (Int.ofNat 0)] = some h2 :=
    cell_store (x := .int .i64 (Int.ofNat 0)) (t := 3) rfl (by rw [AHeap.get_push, if_pos rfl])
  have w : WF Tryd.prog Tryd.f9 none (C (m + 7)) [] (fun e r d q h' => ∃ h'', leaveA Tryd.prog (C (m + 7)) Tryd.f9 (.ok e r d q h') = .ret (.bool (mayL s)) h'' ∧ Ext h.n h h'') (initRegs 0 [.str s] .leaf) [] .none h := by
    refine WF.seq (p := []) (by kernel_rfl) (W.of (may_0 (C (m + 7)) s h) (args_mod [.str s]) fun r1 m1 => .inl ⟨rfl, ?_⟩)
    refine WF.seq (p := [1]) (by kernel_rfl) (W.of (may_1 (C (m + 7)) s h.n h1 h2 ⟨rfl, c2, rfl⟩) m1 fun r2 m2 => .inl ⟨rfl, ?_⟩)
    refine WF.seq (p := [1, 1]) (by kernel_rfl) ?_
    refine WF.seq (p := [1, 1, 0]) (by kernel_rfl) (W.of (may_sp (C (m + 7)) s h.n (h.n + 1) _ h2 h3 (split_c (m + 5) s h2)) m2 fun r3 m3 => .inl ⟨rfl, ?_⟩)
    refine WF.block (p := [1, 1, 0, 1]) (id := 0) (by kernel_rfl) ?_
    refine WF.range (p := [1, 1, 0, 1, 0]) (t := 6) (ps := [7]) (by kernel_rfl) (by kernel_rfl) (hf := rfl) (hm := m3) ?_
    let x0 := (h3.push (.defrd (some []))).push (.loop .ready none (needFn Tryd.f9) r3 [7] mayAs mayBd (h.n + 5))
    have i0 : MayI s h.n h r3 s x0 := by
      refine ⟨⟨0, by simp, ?_⟩, rfl, ?_, ?_, ?_, ?_, ?_, ?_, ?_⟩
      · simp only [x0, h3, itH, h2, h1, AHeap.get_push, AHeap.get_set, AHeap.n_push, AHeap.n_set]; grind
      · simp only [x0, h3, itH, h2, h1, AHeap.get_push, AHeap.get_set, AHeap.n_push, AHeap.n_set]; grind
      · simp only [x0, h3, itH, h2, h1, AHeap.get_push, AHeap.get_set, AHeap.n_push, AHeap.n_set]; grind
      · simp only [x0, h3, itH, h2, h1, AHeap.get_push, AHeap.get_set, AHeap.n_push, AHeap.n_set]; grind
      · simp only [x0, h3, itH, h2, h1, AHeap.get_push, AHeap.get_set, AHeap.n_push, AHeap.n_set]; grind
      · simp only [x0, h3, itH, h2, h1, AHeap.get_push, AHeap.get_set, AHeap.n_push, AHeap.n_set]; grind
      · simp only [x0, h3, itH, h2, h1, AHeap.get_push, AHeap.get_set, AHeap.n_push, AHeap.n_set]; grind
      · exact e3.trans (Nat.le_refl _) ((Ext.push (by omega) _).trans (Nat.le_refl _) (Ext.push (by simp; omega) _))
    have m3' : AEv.Mod r3 [(2, .ptr h.n 0), (3, .ptr (h.n + 1) 0)] := m3.sub ⟨rfl, rfl, trivial⟩
    have sp := sp_c (m + 6) (h.n + 6) (h.n + 2) (fun s' x => MayI s h.n h r3 s' x ∧ s'.length ≤ 50000) (fun x => MayQ s h.n h r3 x) (fun _ _ => False)
      (fun s h => index_c (m + 2) s h) (fun s' x hi => may_its hi.1)
      (fun s' p t x hi hs' hp => by
        have hl : p.length ≤ 50000 ∧ t.length ≤ 50000 := by
          have := hi.2
          rw [hs'] at this
          simp at this
          omega
        rcases may_step (m + 3) hs hpl m3' hi.1 hp hl.1 with ⟨h', h'', a1, a2, a3, a4, a5⟩ | ⟨h', a1, a2⟩ | ⟨w, h', a1, a2⟩
        · exact .inl ⟨h', h'', a1, a2, a3, a4, a5, hl.2⟩
        · exact .inr (.inl ⟨h', a1, a2⟩)
        · exact a2.elim)
      (fun s' x hi hp => may_last (m + 3) hpl m3' hi.1 hp hi.2) s x0 hs ⟨i0, hs⟩
    rcases sp with ⟨x, z1, z2⟩ | ⟨_, _, _, hf⟩
    · rcases z2.fin with ⟨f1, f2, f3⟩ | ⟨f1, f3⟩
      · have hend : rangeEnd (h.n + 6) r3 [.collected (h.n + 5)] .none (.ret (.tup []) x) = .ok .nrm r3 [.collected (h.n + 5)] .none (x.set (h.n + 6) (some (.loop .exhausted none (needFn Tryd.f9) r3 [7] mayAs mayBd (h.n + 5)))) := by
          simp only [rangeEnd, f3]
        refine ⟨.nrm, _, (congrArg (rangeEnd (h.n + 6) r3 [.collected (h.n + 5)] .none) z1).trans hend, .inr ⟨by simp, .inl ⟨rfl, ?_⟩⟩⟩
        have g1 : (x.set (h.n + 6) (some (.loop .exhausted none (needFn Tryd.f9) r3 [7] mayAs mayBd (h.n + 5)))).get (h.n + 1) = some (.cells [.int .i64 (Int.ofNat (pcs [] s).length)] 3 .own 0 0) := by
          rw [AHeap.get_set, if_neg (by omega)]; exact f2
        have g0 : (x.set (h.n + 6) (some (.loop .exhausted none (needFn Tryd.f9) r3 [7] mayAs mayBd (h.n + 5)))).get h.n = some (.cells [.bool false] 4 .own 0 0) := by
          rw [AHeap.get_set, if_neg (by omega)]; exact z2.ans
        have g5 : (x.set (h.n + 6) (some (.loop .exhausted none (needFn Tryd.f9) r3 [7] mayAs mayBd (h.n + 5)))).get (h.n + 5) = some (.defrd (some [])) := by
          rw [AHeap.get_set, if_neg (by omega)]; exact z2.dfr
        have ex : Ext h.n h (x.set (h.n + 6) (some (.loop .exhausted none (needFn Tryd.f9) r3 [7] mayAs mayBd (h.n + 5)))) := z2.ext.trans (Nat.le_refl _) (Ext.set (by omega) _)
        generalize x.set (h.n + 6) (some (.loop .exhausted none (needFn Tryd.f9) r3 [7] mayAs mayBd (h.n + 5))) = y at g1 g0 g5 ex ⊢
        refine W.of (may_end' (C (m + 7)) h.n (h.n + 1) (pcs [] s).length [.collected (h.n + 5)] y _ (cell_load g1) ⟨rfl, cell_store (y := .bool (leI (Int.ofNat (pcs [] s).length) (Int.ofNat 8))) rfl g0, rfl⟩) m3' fun r4 m4 => ?_
        have hv : leI (Int.ofNat (pcs [] s).length) (Int.ofNat 8) = mayL s := by
          rw [leI_n]; simp only [mayL, f1, Bool.true_and]
        rw [hv]
        exact ⟨_, may_leave _ (mayL s) h.n r4 _ _ m4 (by rw [AHeap.get_set, if_neg (by omega)]; exact g5) (by rw [AHeap.get_set, if_pos rfl]), (ex.trans (Nat.le_refl _) (Ext.set (by omega) _)).trans (Nat.le_refl _) (Ext.set (by omega) _)⟩
      · have hend : rangeEnd (h.n + 6) r3 [.collected (h.n + 5)] .none (.ret (.tup []) x) = .ok .ret r3 [.collected (h.n + 5)] .none (x.set (h.n + 6) (some (.loop .exhausted (some .ret) (needFn Tryd.f9) r3 [7] mayAs mayBd (h.n + 5)))) := by
          simp only [rangeEnd, f3]
        refine ⟨.ret, _, (congrArg (rangeEnd (h.n + 6) r3 [.collected (h.n + 5)] .none) z1).trans hend, .inr ⟨by simp, .inr ⟨by simp, ?_⟩⟩⟩
        have hv : mayL s = false := by simp only [mayL, f1, Bool.false_and]
        rw [hv]
        have m4 : AEv.Mod r3 [(2, .ptr h.n 0)] := m3.sub ⟨rfl, trivial⟩
        refine ⟨_, may_leave _ false h.n r3 _ _ m4 (by rw [AHeap.get_set, if_neg (by omega)]; exact z2.dfr) (by rw [AHeap.get_set, if_neg (by omega)]; exact z2.ans), (z2.ext.trans (Nat.le_refl _) (Ext.set (by omega) _)).trans (Nat.le_refl _) (Ext.set (by omega) _)⟩
    · exact hf.elim
  obtain ⟨e, r, d, q, h', w1, h'', w2, w3⟩ := w
  exact ⟨h'', fn_W (intr := tabIntr Wk) (n := m + 7) (args := [.str s]) Tryd.func9 (by kernel_rfl) rfl (by kernel_rfl) ⟨e, r, d, q, h', w1, w2⟩, w3⟩
end Go.Proofs.P05

namespace Go.Proofs.P05
open Go AEv Go.Proofs
set_option maxRecDepth 100000
theorem bchk0 (call : CallT → List AV → AHeap → FRes) (b : Nat) (h : AHeap) (g : AHeap) (g_1 : AHeap) 
    (H1 : load1 h b (0 + 0) = some AV.nilP)
    (H2 : evConvert Tryd.prog 42 56 (AV.ptr b 0) h = OpRes.val (AV.ptr b 0) h)
    (H3 : call (CallT.fn 32) [AV.ptr b 0] h = FRes.ret (AV.ptr b 0) h)
    (H4 : evConvert Tryd.prog 56 42 (AV.ptr b 0) h = OpRes.val (AV.ptr b 0) h)
    (H5 : AEv.storeCells h b (0 + 0) [AV.ptr b 0] = some g_1) :
    RunF Tryd.prog Tryd.f28 none call [] (SSt.mk [(0, AV.ptr b 0)] [] Rc.none h) (AEx.nrm)
      (SSt.mk [] [] Rc.none g_1) :=
  sxF_run [] (hs := [Hint.v AV.nilP, Hint.v (AV.bool true), Hint.b true, Hint.v (AV.ptr b 0), Hint.c (AV.ptr b 0) h, Hint.v (AV.ptr b 0), Hint.vh (AV.tup []) g_1]) (by kernel_rfl) <| .cons H1 <| .cons (by kernel_rfl : binA Tryd.prog h BinOp.eql 42 (Operand.tmp 5) (Operand.const (Value.pointer none)) AV.nilP AV.nilP = some (AV.bool true)) <| .cons (by kernel_rfl : true = true) <| .cons H2 <| .cons H3 <| .cons H4 <| .cons (⟨by kernel_rfl, H5, rfl⟩ : some 1 = some (List.length [AV.ptr b 0]) ∧ AEv.storeCells h b (0 + 0) [AV.ptr b 0] = some g_1 ∧ AV.tup [] = AV.tup []) <| .nil
theorem bchk1 (call : CallT → List AV → AHeap → FRes) (b : Nat) (h : AHeap) (b_1 : Bool) 
    (H1 : load1 h b (0 + 0) = some (AV.ptr b 0))
    (H2 : binA Tryd.prog h BinOp.neq 42 (Operand.tmp 17) (Operand.tmp 18) (AV.ptr b 0) (AV.ptr b 0) = some (AV.bool b_1))
    (H3 : b_1 = false) :
    RunF Tryd.prog Tryd.f28 none call [] (SSt.mk [(0, AV.ptr b 0)] [] Rc.none h) (AEx.nrm)
      (SSt.mk [] [] Rc.none h) :=
  sxF_run [] (hs := [Hint.v (AV.ptr b 0), Hint.v (AV.bool false), Hint.b false, Hint.v (AV.ptr b 0), Hint.v (AV.bool b_1), Hint.b false]) (by kernel_rfl) <| .cons H1 <| .cons (by kernel_rfl : binA Tryd.prog h BinOp.eql 42 (Operand.tmp 5) (Operand.const (Value.pointer none)) (AV.ptr b 0) AV.nilP = some (AV.bool false)) <| .cons (by kernel_rfl : false = false) <| .cons H1 <| .cons H2 <| .cons H3 <| .nil
theorem bgr (call : CallT → List AV → AHeap → FRes) (b : Nat) (n : Nat) (c : Nat) (h : AHeap) (g : AHeap) (g_1 : AHeap) 
    (H1 : load1 (AHeap.room h 16) b (0 + 1) = some AV.nilS)
    (H2 : arith BinOp.add IntKind.i64 (Int.ofNat 0) (Int.ofNat n) = some (AV.int IntKind.i64 (Int.ofNat n)))
    (H3 : call (CallT.fn 33) [AV.int IntKind.i64 (Int.ofNat n)] (AHeap.room h 16) = FRes.ret (AV.slice c 0 n (Cap.opn 1)) g)
    (H4 : load1 g b (0 + 1) = some AV.nilS)
    (H5 : sliceA Tryd.prog g 43 (AV.slice c 0 n (Cap.opn 1)) none (some (AV.int IntKind.i64 (Int.ofNat 0))) none = some (AV.slice c 0 0 (Cap.opn 1)))
    (H6 : copyA Tryd.prog g 43 (AV.slice c 0 0 (Cap.opn 1)) AV.nilS = some (AV.int IntKind.i64 (Int.ofNat 0), g))
    (H7 : AEv.storeCells g b (0 + 1) [AV.slice c 0 0 (Cap.opn 1)] = some g_1) :
    RunF Tryd.prog Tryd.f29 none call [] (SSt.mk [(0, AV.ptr b 0), (1, AV.int IntKind.i64 (Int.ofNat n))] [] Rc.none h) (AEx.nrm)
      (SSt.mk [] [] Rc.none g_1) :=
  sxF_run [] (hs := [Hint.v AV.nilS, Hint.v (AV.int IntKind.i64 (Int.ofNat 0)), Hint.v (AV.int IntKind.i64 (Int.ofNat 0)), Hint.v (AV.int IntKind.i64 (Int.ofNat n)), Hint.c (AV.slice c 0 n (Cap.opn 1)) g, Hint.v AV.nilS, Hint.v (AV.slice c 0 0 (Cap.opn 1)), Hint.v AV.nilS, Hint.vh (AV.int IntKind.i64 (Int.ofNat 0)) g, Hint.vh (AV.tup []) g_1]) (by kernel_rfl) <| .cons H1 <| .cons (by kernel_rfl : capA Tryd.prog 43 AV.nilS = some (AV.int IntKind.i64 (Int.ofNat 0))) <| .cons (by kernel_rfl : arith BinOp.mul IntKind.i64 (Int.ofNat 2) (Int.ofNat 0) = some (AV.int IntKind.i64 (Int.ofNat 0))) <| .cons H2 <| .cons H3 <| .cons H4 <| .cons H5 <| .cons (by kernel_rfl : AV.sound (AV.ptr b 0) = true) <| .cons (by kernel_rfl : AV.ptr b 0 = AV.ptr b 0) <| .cons (by kernel_rfl : AV.sound (AV.ptr b 0) = true) <| .cons (by kernel_rfl : AV.ptr b 0 = AV.ptr b 0) <| .cons (by kernel_rfl : AV.sound (AV.ptr b (0 + 1)) = true) <| .cons (by kernel_rfl : AV.ptr b (0 + 1) = AV.ptr b (0 + 1)) <| .cons (by kernel_rfl : AV.sound AV.nilS = true) <| .cons H1 <| .cons (by kernel_rfl : AV.sound (AV.int IntKind.i64 (Int.ofNat 0)) = true) <| .cons (by kernel_rfl : capA Tryd.prog 43 AV.nilS = some (AV.int IntKind.i64 (Int.ofNat 0))) <| .cons (by kernel_rfl : AV.sound (AV.int IntKind.i64 (Int.ofNat 0)) = true) <| .cons (by kernel_rfl : arith BinOp.mul IntKind.i64 (Int.ofNat 2) (Int.ofNat 0) = some (AV.int IntKind.i64 (Int.ofNat 0))) <| .cons (by kernel_rfl : AV.sound (AV.int IntKind.i64 (Int.ofNat n)) = true) <| .cons (by kernel_rfl : AV.int IntKind.i64 (Int.ofNat n) = AV.int IntKind.i64 (Int.ofNat n)) <| .cons (by kernel_rfl : AV.sound (AV.int IntKind.i64 (Int.ofNat n)) = true) <| .cons H2 <| .cons (by kernel_rfl : AV.sound (AV.ptr b 0) = true) <| .cons (by kernel_rfl : AV.ptr b 0 = AV.ptr b 0) <| .cons (by kernel_rfl : AV.sound (AV.ptr b 0) = true) <| .cons (by kernel_rfl : AV.ptr b 0 = AV.ptr b 0) <| .cons (by kernel_rfl : AV.sound (AV.ptr b 0) = true) <| .cons (by kernel_rfl : AV.ptr b 0 = AV.ptr b 0) <| .cons (by kernel_rfl : AV.sound (AV.ptr b 0) = true) <| .cons (by kernel_rfl : AV.ptr b 0 = AV.ptr b 0) <| .cons (by kernel_rfl : AV.sound (AV.ptr b (0 + 1)) = true) <| .cons (by kernel_rfl : AV.ptr b (0 + 1) = AV.ptr b (0 + 1)) <| .cons (by kernel_rfl : AV.sound (AV.ptr b (0 + 1)) = true) <| .cons (by kernel_rfl : AV.ptr b (0 + 1) = AV.ptr b (0 + 1)) <| .cons (by kernel_rfl : AV.sound AV.nilS = true) <| .cons H4 <| .cons (by kernel_rfl : AV.sound AV.nilS = true) <| .cons H1 <| .cons (by kernel_rfl : AV.sound (AV.int IntKind.i64 (Int.ofNat 0)) = true) <| .cons (by kernel_rfl : AV.int IntKind.i64 (Int.ofNat 0) = AV.int IntKind.i64 (Int.ofNat 0)) <| .cons (by kernel_rfl : AV.sound (AV.int IntKind.i64 (Int.ofNat 0)) = true) <| .cons (by kernel_rfl : AV.int IntKind.i64 (Int.ofNat 0) = AV.int IntKind.i64 (Int.ofNat 0)) <| .cons (by kernel_rfl : AV.sound (AV.slice c 0 0 (Cap.opn 1)) = true) <| .cons H5 <| .cons (by kernel_rfl : AV.sound (AV.slice c 0 0 (Cap.opn 1)) = true) <| .cons (by kernel_rfl : AV.slice c 0 0 (Cap.opn 1) = AV.slice c 0 0 (Cap.opn 1)) <| .cons H4 <| .cons H6 <| .cons (⟨by kernel_rfl, H7, rfl⟩ : some 1 = some (List.length [AV.slice c 0 0 (Cap.opn 1)]) ∧ AEv.storeCells g b (0 + 1) [AV.slice c 0 0 (Cap.opn 1)] = some g_1 ∧ AV.tup [] = AV.tup []) <| .nil
theorem bgrow_1 (call : CallT → List AV → AHeap → FRes) (b : Nat) (n : Nat) (h : AHeap) (g_1 : AHeap) (g_2 : AHeap) 
    (H1 : call (CallT.fn 28) [AV.ptr b 0] h = FRes.ret (AV.tup []) g_1)
    (H2 : load1 (AHeap.room g_1 13) b (0 + 1) = some AV.nilS)
    (H3 : ltI (Int.ofNat 0) (Int.ofNat n) = true)
    (H4 : call (CallT.fn 29) [AV.ptr b 0, AV.int IntKind.i64 (Int.ofNat n)] (AHeap.room g_1 13) = FRes.ret (AV.tup []) g_2) :
    RunF Tryd.prog Tryd.f22 none call [] (SSt.mk [(0, AV.ptr b 0), (1, AV.int IntKind.i64 (Int.ofNat n))] [] Rc.none h) (AEx.nrm)
      (SSt.mk [] [] Rc.none g_2) :=
  sxF_run [] (hs := [Hint.c (AV.tup []) g_1, Hint.b false, Hint.v AV.nilS, Hint.v (AV.int IntKind.i64 (Int.ofNat 0)), Hint.v AV.nilS, Hint.v (AV.int IntKind.i64 (Int.ofNat 0)), Hint.b true, Hint.c (AV.tup []) g_2]) (by kernel_rfl) <| .cons H1 <| .cons (by kernel_rfl : ltI (Int.ofNat n) (Int.ofNat 0) = false) <| .cons H2 <| .cons (by kernel_rfl : capA Tryd.prog 43 AV.nilS = some (AV.int IntKind.i64 (Int.ofNat 0))) <| .cons H2 <| .cons (by kernel_rfl : arith BinOp.sub IntKind.i64 (Int.ofNat 0) (Int.ofNat 0) = some (AV.int IntKind.i64 (Int.ofNat 0))) <| .cons (by kernel_rfl : AV.sound (AV.ptr b 0) = true) <| .cons (by kernel_rfl : AV.ptr b 0 = AV.ptr b 0) <| .cons (by kernel_rfl : AV.sound (AV.ptr b 0) = true) <| .cons (by kernel_rfl : AV.ptr b 0 = AV.ptr b 0) <| .cons (by kernel_rfl : AV.sound (AV.ptr b (0 + 1)) = true) <| .cons (by kernel_rfl : AV.ptr b (0 + 1) = AV.ptr b (0 + 1)) <| .cons (by kernel_rfl : AV.sound AV.nilS = true) <| .cons H2 <| .cons (by kernel_rfl : AV.sound (AV.int IntKind.i64 (Int.ofNat 0)) = true) <| .cons (by kernel_rfl : capA Tryd.prog 43 AV.nilS = some (AV.int IntKind.i64 (Int.ofNat 0))) <| .cons (by kernel_rfl : AV.sound (AV.ptr b 0) = true) <| .cons (by kernel_rfl : AV.ptr b 0 = AV.ptr b 0) <| .cons (by kernel_rfl : AV.sound (AV.ptr b 0) = true) <| .cons (by kernel_rfl : AV.ptr b 0 = AV.ptr b 0) <| .cons (by kernel_rfl : AV.sound (AV.ptr b (0 + 1)) = true) <| .cons (by kernel_rfl : AV.ptr b (0 + 1) = AV.ptr b (0 + 1)) <| .cons (by kernel_rfl : AV.sound AV.nilS = true) <| .cons H2 <| .cons (by kernel_rfl : AV.sound (AV.int IntKind.i64 (Int.ofNat 0)) = true) <| .cons (by kernel_rfl : AV.int IntKind.i64 (Int.ofNat 0) = AV.int IntKind.i64 (Int.ofNat 0)) <| .cons (by kernel_rfl : AV.sound (AV.int IntKind.i64 (Int.ofNat 0)) = true) <| .cons (by kernel_rfl : arith BinOp.sub IntKind.i64 (Int.ofNat 0) (Int.ofNat 0) = some (AV.int IntKind.i64 (Int.ofNat 0))) <| .cons (by kernel_rfl : AV.sound (AV.int IntKind.i64 (Int.ofNat n)) = true) <| .cons (by kernel_rfl : AV.int IntKind.i64 (Int.ofNat n) = AV.int IntKind.i64 (Int.ofNat n)) <| .cons (by kernel_rfl : AV.sound (AV.bool (ltI (Int.ofNat 0) (Int.ofNat n))) = true) <| .cons (by kernel_rfl : AV.bool (ltI (Int.ofNat 0) (Int.ofNat n)) = AV.bool (ltI (Int.ofNat 0) (Int.ofNat n))) <| .cons H3 <| .cons H4 <| .nil
theorem bgrow_2 (call : CallT → List AV → AHeap → FRes) (b : Nat) (n : Nat) (h : AHeap) (g_1 : AHeap) 
    (H1 : call (CallT.fn 28) [AV.ptr b 0] h = FRes.ret (AV.tup []) g_1)
    (H2 : load1 (AHeap.room g_1 13) b (0 + 1) = some AV.nilS)
    (H3 : ltI (Int.ofNat 0) (Int.ofNat n) = false) :
    RunF Tryd.prog Tryd.f22 none call [] (SSt.mk [(0, AV.ptr b 0), (1, AV.int IntKind.i64 (Int.ofNat n))] [] Rc.none h) (AEx.nrm)
      (SSt.mk [] [] Rc.none (AHeap.room g_1 13)) :=
  sxF_run [] (hs := [Hint.c (AV.tup []) g_1, Hint.b false, Hint.v AV.nilS, Hint.v (AV.int IntKind.i64 (Int.ofNat 0)), Hint.v AV.nilS, Hint.v (AV.int IntKind.i64 (Int.ofNat 0)), Hint.b false]) (by kernel_rfl) <| .cons H1 <| .cons (by kernel_rfl : ltI (Int.ofNat n) (Int.ofNat 0) = false) <| .cons H2 <| .cons (by kernel_rfl : capA Tryd.prog 43 AV.nilS = some (AV.int IntKind.i64 (Int.ofNat 0))) <| .cons H2 <| .cons (by kernel_rfl : arith BinOp.sub IntKind.i64 (Int.ofNat 0) (Int.ofNat 0) = some (AV.int IntKind.i64 (Int.ofNat 0))) <| .cons (by kernel_rfl : AV.sound (AV.ptr b 0) = true) <| .cons (by kernel_rfl : AV.ptr b 0 = AV.ptr b 0) <| .cons (by kernel_rfl : AV.sound (AV.ptr b 0) = true) <| .cons (by kernel_rfl : AV.ptr b 0 = AV.ptr b 0) <| .cons (by kernel_rfl : AV.sound (AV.ptr b (0 + 1)) = true) <| .cons (by kernel_rfl : AV.ptr b (0 + 1) = AV.ptr b (0 + 1)) <| .cons (by kernel_rfl : AV.sound AV.nilS = true) <| .cons H2 <| .cons (by kernel_rfl : AV.sound (AV.int IntKind.i64 (Int.ofNat 0)) = true) <| .cons (by kernel_rfl : capA Tryd.prog 43 AV.nilS = some (AV.int IntKind.i64 (Int.ofNat 0))) <| .cons (by kernel_rfl : AV.sound (AV.ptr b 0) = true) <| .cons (by kernel_rfl : AV.ptr b 0 = AV.ptr b 0) <| .cons (by kernel_rfl : AV.sound (AV.ptr b 0) = true) <| .cons (by kernel_rfl : AV.ptr b 0 = AV.ptr b 0) <| .cons (by kernel_rfl : AV.sound (AV.ptr b (0 + 1)) = true) <| .cons (by kernel_rfl : AV.ptr b (0 + 1) = AV.ptr b (0 + 1)) <| .cons (by kernel_rfl : AV.sound AV.nilS = true) <| .cons H2 <| .cons (by kernel_rfl : AV.sound (AV.int IntKind.i64 (Int.ofNat 0)) = true) <| .cons (by kernel_rfl : AV.int IntKind.i64 (Int.ofNat 0) = AV.int IntKind.i64 (Int.ofNat 0)) <| .cons (by kernel_rfl : AV.sound (AV.int IntKind.i64 (Int.ofNat 0)) = true) <| .cons (by kernel_rfl : arith BinOp.sub IntKind.i64 (Int.ofNat 0) (Int.ofNat 0) = some (AV.int IntKind.i64 (Int.ofNat 0))) <| .cons (by kernel_rfl : AV.sound (AV.int IntKind.i64 (Int.ofNat n)) = true) <| .cons (by kernel_rfl : AV.int IntKind.i64 (Int.ofNat n) = AV.int IntKind.i64 (Int.ofNat n)) <| .cons (by kernel_rfl : AV.sound (AV.bool (ltI (Int.ofNat 0) (Int.ofNat n))) = true) <| .cons (by kernel_rfl : AV.bool (ltI (Int.ofNat 0) (Int.ofNat n)) = AV.bool (ltI (Int.ofNat 0) (Int.ofNat n))) <| .cons H3 <| .nil
theorem bwr (call : CallT → List AV → AHeap → FRes) (b : Nat) (c : Nat) (m : Nat) (s : List UInt8) (v : AV) (h : AHeap) (h2 : AHeap) (g_1 : AHeap) (g_2 : AHeap) 
    (H1 : call (CallT.fn 28) [AV.ptr b 0] h = FRes.ret (AV.tup []) g_1)
    (H2 : load1 g_1 b (0 + 1) = some v)
    (H3 : appendA Tryd.prog g_1 43 (some 9) v (AV.str s) = some (AV.slice c 0 m (Cap.opn 1), h2))
    (H4 : AEv.storeCells h2 b (0 + 1) [AV.slice c 0 m (Cap.opn 1)] = some g_2) :
    RunF Tryd.prog Tryd.f23 none call [] (SSt.mk [(0, AV.ptr b 0), (1, AV.str s)] [] Rc.none h) (AEx.ret)
      (SSt.mk [(4, AV.int IntKind.i64 (Int.ofNat (List.length s))), (5, AV.nilI)] [] Rc.none g_2) :=
  sxF_run [4, 5] (hs := [Hint.c (AV.tup []) g_1, Hint.v v, Hint.vh (AV.slice c 0 m (Cap.opn 1)) h2, Hint.vh (AV.tup []) g_2]) (by kernel_rfl) <| .cons H1 <| .cons H2 <| .cons H3 <| .cons (⟨by kernel_rfl, H4, rfl⟩ : some 1 = some (List.length [AV.slice c 0 m (Cap.opn 1)]) ∧ AEv.storeCells h2 b (0 + 1) [AV.slice c 0 m (Cap.opn 1)] = some g_2 ∧ AV.tup [] = AV.tup []) <| .nil
theorem bwr0 (call : CallT → List AV → AHeap → FRes) (b : Nat) (s : List UInt8) (v : AV) (h : AHeap) (h2 : AHeap) (g_1 : AHeap) (g_2 : AHeap) 
    (H1 : call (CallT.fn 28) [AV.ptr b 0] h = FRes.ret (AV.tup []) g_1)
    (H2 : load1 g_1 b (0 + 1) = some v)
    (H3 : appendA Tryd.prog g_1 43 (some 9) v (AV.str s) = some (AV.nilS, h2))
    (H4 : AEv.storeCells h2 b (0 + 1) [AV.nilS] = some g_2) :
    RunF Tryd.prog Tryd.f23 none call [] (SSt.mk [(0, AV.ptr b 0), (1, AV.str s)] [] Rc.none h) (AEx.ret)
      (SSt.mk [(4, AV.int IntKind.i64 (Int.ofNat (List.length s))), (5, AV.nilI)] [] Rc.none g_2) :=
  sxF_run [4, 5] (hs := [Hint.c (AV.tup []) g_1, Hint.v v, Hint.vh AV.nilS h2, Hint.vh (AV.tup []) g_2]) (by kernel_rfl) <| .cons H1 <| .cons H2 <| .cons H3 <| .cons (⟨by kernel_rfl, H4, rfl⟩ : some 1 = some (List.length [AV.nilS]) ∧ AEv.storeCells h2 b (0 + 1) [AV.nilS] = some g_2 ∧ AV.tup [] = AV.tup []) <| .nil
theorem bstr (call : CallT → List AV → AHeap → FRes) (b : Nat) (c : Nat) (m : Nat) (h : AHeap) (t_1 : List UInt8) (g_1 : AHeap) 
    (H1 : load1 (AHeap.room h 12) b (0 + 1) = some (AV.slice c 0 m (Cap.opn 1)))
    (H2 : evBuiltin Tryd.prog Builtin.unsafeSliceData (Array.mk [43]) [AV.slice c 0 m (Cap.opn 1)] (AHeap.room h 12) = OpRes.val (AV.ptr c 0) (AHeap.room h 12))
    (H3 : unsafeStrA Tryd.prog (AHeap.room h 12) 55 (AV.ptr c 0) (AV.int IntKind.i64 (Int.ofNat m)) = some (AV.str t_1, g_1)) :
    RunF Tryd.prog Tryd.f24 none call [] (SSt.mk [(0, AV.ptr b 0)] [] Rc.none h) (AEx.ret)
      (SSt.mk [(2, AV.str t_1)] [] Rc.none g_1) :=
  sxF_run [2] (hs := [Hint.v (AV.slice c 0 m (Cap.opn 1)), Hint.v (AV.ptr c 0), Hint.v (AV.slice c 0 m (Cap.opn 1)), Hint.vh (AV.str t_1) g_1]) (by kernel_rfl) <| .cons H1 <| .cons H2 <| .cons H1 <| .cons H3 <| .cons (by kernel_rfl : AV.sound (AV.ptr b 0) = true) <| .cons (by kernel_rfl : AV.ptr b 0 = AV.ptr b 0) <| .cons (by kernel_rfl : AV.sound (AV.ptr b 0) = true) <| .cons (by kernel_rfl : AV.ptr b 0 = AV.ptr b 0) <| .cons (by kernel_rfl : AV.sound (AV.ptr b (0 + 1)) = true) <| .cons (by kernel_rfl : AV.ptr b (0 + 1) = AV.ptr b (0 + 1)) <| .cons (by kernel_rfl : AV.sound (AV.slice c 0 m (Cap.opn 1)) = true) <| .cons H1 <| .cons (by kernel_rfl : AV.sound (AV.ptr c 0) = true) <| .cons H2 <| .cons (by kernel_rfl : AV.sound (AV.ptr b 0) = true) <| .cons (by kernel_rfl : AV.ptr b 0 = AV.ptr b 0) <| .cons (by kernel_rfl : AV.sound (AV.ptr b 0) = true) <| .cons (by kernel_rfl : AV.ptr b 0 = AV.ptr b 0) <| .cons (by kernel_rfl : AV.sound (AV.ptr b (0 + 1)) = true) <| .cons (by kernel_rfl : AV.ptr b (0 + 1) = AV.ptr b (0 + 1)) <| .cons (by kernel_rfl : AV.sound (AV.slice c 0 m (Cap.opn 1)) = true) <| .cons H1 <| .cons (by kernel_rfl : AV.sound (AV.int IntKind.i64 (Int.ofNat m)) = true) <| .cons (by kernel_rfl : AV.int IntKind.i64 (Int.ofNat m) = AV.int IntKind.i64 (Int.ofNat m)) <| .cons (by kernel_rfl : AV.sound (AV.str t_1) = true) <| .cons (by kernel_rfl : AV.str t_1 = AV.str t_1) <| .nil
theorem bstr0 (call : CallT → List AV → AHeap → FRes) (b : Nat) (h : AHeap) (t_1 : List UInt8) (g_1 : AHeap) 
    (H1 : load1 (AHeap.room h 12) b (0 + 1) = some AV.nilS)
    (H2 : unsafeStrA Tryd.prog (AHeap.room h 12) 55 AV.nilP (AV.int IntKind.i64 (Int.ofNat 0)) = some (AV.str t_1, g_1)) :
    RunF Tryd.prog Tryd.f24 none call [] (SSt.mk [(0, AV.ptr b 0)] [] Rc.none h) (AEx.ret)
      (SSt.mk [(2, AV.str t_1)] [] Rc.none g_1) :=
  sxF_run [2] (hs := [Hint.v AV.nilS, Hint.v AV.nilP, Hint.v AV.nilS, Hint.vh (AV.str t_1) g_1]) (by kernel_rfl) <| .cons H1 <| .cons (by kernel_rfl : evBuiltin Tryd.prog Builtin.unsafeSliceData (Array.mk [43]) [AV.nilS] (AHeap.room h 12) = OpRes.val AV.nilP (AHeap.room h 12)) <| .cons H1 <| .cons H2 <| .cons (by kernel_rfl : AV.sound (AV.ptr b 0) = true) <| .cons (by kernel_rfl : AV.ptr b 0 = AV.ptr b 0) <| .cons (by kernel_rfl : AV.sound (AV.ptr b 0) = true) <| .cons (by kernel_rfl : AV.ptr b 0 = AV.ptr b 0) <| .cons (by kernel_rfl : AV.sound (AV.ptr b (0 + 1)) = true) <| .cons (by kernel_rfl : AV.ptr b (0 + 1) = AV.ptr b (0 + 1)) <| .cons (by kernel_rfl : AV.sound AV.nilS = true) <| .cons H1 <| .cons (by kernel_rfl : AV.sound AV.nilP = true) <| .cons (by kernel_rfl : evBuiltin Tryd.prog Builtin.unsafeSliceData (Array.mk [43]) [AV.nilS] (AHeap.room h 12) = OpRes.val AV.nilP (AHeap.room h 12)) <| .cons (by kernel_rfl : AV.sound (AV.ptr b 0) = true) <| .cons (by kernel_rfl : AV.ptr b 0 = AV.ptr b 0) <| .cons (by kernel_rfl : AV.sound (AV.ptr b 0) = true) <| .cons (by kernel_rfl : AV.ptr b 0 = AV.ptr b 0) <| .cons (by kernel_rfl : AV.sound (AV.ptr b (0 + 1)) = true) <| .cons (by kernel_rfl : AV.ptr b (0 + 1) = AV.ptr b (0 + 1)) <| .cons (by kernel_rfl : AV.sound AV.nilS = true) <| .cons H1 <| .cons (by kernel_rfl : AV.sound (AV.int IntKind.i64 (Int.ofNat 0)) = true) <| .cons (by kernel_rfl : AV.int IntKind.i64 (Int.ofNat 0) = AV.int IntKind.i64 (Int.ofNat 0)) <| .cons (by kernel_rfl : AV.sound (AV.str t_1) = true) <| .cons (by kernel_rfl : AV.str t_1 = AV.str t_1) <| .nil

/-! ### strings.Builder -/
/-- A builder at a place, that holds a text. -/
def Bld (b : Nat) (h : AHeap) (w : List UInt8) : Prop := ∃ a v, h.get b = some (.cells [a, v] 45 .own 0 0) ∧ (a = .nilP ∨ a = .ptr b 0) ∧ Buf (b + 1) 5 h v w ∧ b < h.n
theorem load_c0 {h : AHeap} {b t : Nat} {x y : AV} (hg : h.get b = some (.cells [x, y] t .own 0 0)) : load1 h b (0 + 0) = some x := by simp only [load1, hg]; rfl
theorem load_c1 {h : AHeap} {b t : Nat} {x y : AV} (hg : h.get b = some (.cells [x, y] t .own 0 0)) : load1 h b (0 + 1) = some y := by simp only [load1, hg]; rfl
theorem store_c0 {h : AHeap} {b t : Nat} {x y z : AV} (hz : z.isCell = true) (hg : h.get b = some (.cells [x, y] t .own 0 0)) : AEv.storeCells h b (0 + 0) [z] = some (h.set b (some (.cells [z, y] t .own 0 0))) := by
  have hw : writable .own 0 0 (0 + 0) [z].length = true := rfl
  simp only [AEv.storeCells, hg, hw, putCells, hz]
theorem store_c1 {h : AHeap} {b t : Nat} {x y z : AV} (hz : z.isCell = true) (hg : h.get b = some (.cells [x, y] t .own 0 0)) : AEv.storeCells h b (0 + 1) [z] = some (h.set b (some (.cells [x, z] t .own 0 0))) := by
  have hw : writable .own 0 0 (0 + 1) [z].length = true := rfl
  simp only [AEv.storeCells, hg, hw, putCells, hz]

theorem ext32 (n b : Nat) (h : AHeap) : C (n + 1) (.fn 32) [.ptr b 0] h = .ret (.ptr b 0) h := by unfold C; kernel_rfl
theorem chk_c (n b : Nat) (h : AHeap) (v : AV) (hb : b < h.n) (hg : h.get b = some (.cells [.nilP, v] 45 .own 0 0) ∨ h.get b = some (.cells [.ptr b 0, v] 45 .own 0 0)) :
    ∃ h', C (n + 2) (.fn 28) [.ptr b 0] h = .ret (.tup []) h' ∧ h'.get b = some (.cells [.ptr b 0, v] 45 .own 0 0) ∧ h'.n = h.n ∧ ∀ c, c ≠ b → h'.get c = h.get c := by
  rcases hg with hg | hg
  · refine ⟨h.set b (some (.cells [.ptr b 0, v] 45 .own 0 0)), ?_, by rw [AHeap.get_set, if_pos rfl], rfl, fun c hc => by rw [AHeap.get_set, if_neg hc]⟩
    have f1 : Tryd.prog.underlying 42 = some (.pointer 45) := by kernel_rfl
    have f2 : Tryd.prog.underlying 56 = some .unsafePointer := by kernel_rfl
    have f3 : sizeT Tryd.prog 45 = some 2 := by kernel_rfl
    have f4 : liesAt Tryd.prog Tryd.prog.depth 45 (2 / Tryd.prog.cellsOf 45) 0 45 1 = true := by kernel_rfl
    have v1 : evConvert Tryd.prog 42 56 (AV.ptr b 0) h = OpRes.val (AV.ptr b 0) h := by
      simp only [evConvert, f1, f2, f3, hg]; rfl
    have v2 : evConvert Tryd.prog 56 42 (AV.ptr b 0) h = OpRes.val (AV.ptr b 0) h := by
      simp only [evConvert, f1, f2, f3, hg, List.length_cons, List.length_nil, f4]; rfl
    have hr := bchk0 (C (n + 1)) b h h (h.set b (some (.cells [.ptr b 0, v] 45 .own 0 0))) (load_c0 hg) v1 (ext32 n b h) v2 (store_c0 rfl hg)
    exact fn_runF (intr := tabIntr Wk) (n := n + 1) (args := [.ptr b 0]) Tryd.func28 (by kernel_rfl) rfl (by kernel_rfl) hr (.inr rfl) (by kernel_rfl)
  · refine ⟨h, ?_, hg, rfl, fun c _ => rfl⟩
    have he : binA Tryd.prog h BinOp.neq 42 (Operand.tmp 17) (Operand.tmp 18) (AV.ptr b 0) (AV.ptr b 0) = some (AV.bool false) := by
      have e1 : Tryd.prog.underlying 42 = some (.pointer 45) := by kernel_rfl
      have e2 : sizeT Tryd.prog 45 = some 2 := by kernel_rfl
      have e3 : Nat.beq b b = true := by simp
      simp only [binA, eqOK, eqA, e1, e2, eqPtr, e3]
      rfl
    exact fn_runF (intr := tabIntr Wk) (n := n + 1) (args := [.ptr b 0]) Tryd.func28 (by kernel_rfl) rfl (by kernel_rfl) (bchk1 (C (n + 1)) b h false (load_c0 hg) he rfl) (.inr rfl) (by kernel_rfl)
theorem chk_b (n b : Nat) (h : AHeap) (w : List UInt8) (hb : Bld b h w) : ∃ h' v, C (n + 2) (.fn 28) [.ptr b 0] h = .ret (.tup []) h' ∧ h'.get b = some (.cells [.ptr b 0, v] 45 .own 0 0) ∧ Buf (b + 1) 5 h' v w ∧ h'.n = h.n ∧ (∀ c, c ≠ b → h'.get c = h.get c) := by
  obtain ⟨a, v, h1, h2, h3, h4⟩ := hb
  obtain ⟨h', c1, c2, c3, c4⟩ := chk_c n b h v h4 (by rcases h2 with rfl | rfl; exact .inl h1; exact .inr h1)
  exact ⟨h', v, c1, c2, h3.ext (by omega) fun c hc _ => c4 c (by omega), c3, c4⟩
theorem ext_of {b : Nat} {h h' : AHeap} (hn : h.n ≤ h'.n) (hg : ∀ c, c ≠ b → h'.get c = h.get c) : Ext b h h' := ⟨hn, fun c hc => hg c (by omega)⟩

theorem wr_c (n b : Nat) (h : AHeap) (w s : List UInt8) (hb : Bld b h w) (hl : w.length + s.length ≤ 1000000000) : ∃ h', C (n + 3) (.fn 23) [.ptr b 0, .str s] h = .ret (.tup [.int .i64 (Int.ofNat s.length), .nilI]) h' ∧ Bld b h' (w ++ s) ∧ Ext b h h' := by
  obtain ⟨h1, v, c1, g1, b1, n1, o1⟩ := chk_b n b h w hb
  have hbn : b < h.n := by obtain ⟨_, _, _, _, _, h4⟩ := hb; exact h4
  have hi : (Tryd.prog.info? 5).map (fun i => (i.size, i.bytes)) = some (1, 1) := by kernel_rfl
  cases hii : Tryd.prog.info? 5 with
  | none => rw [hii] at hi; cases hi
  | some i =>
    rw [hii] at hi
    simp only [Option.map_some, Option.some.injEq, Prod.mk.injEq] at hi
    have hroom : roomOK (w.length + s.length) i.bytes = true := by
      rw [hi.2]
      have : (4 * (w.length + s.length) + 2048) * (1 + 1) ≤ 281474976710656 := by omega
      simpa [roomOK] using this
    obtain ⟨v', h2, a1, a2, a3⟩ := appendB (P := Tryd.prog) (B := b + 1) (sT := 43) (xT := some 9) (e := 5) (z := .int .u8 (Int.ofNat 0)) (by omega) (by kernel_rfl) (by kernel_rfl) hii hi.1 (by kernel_rfl) rfl hroom b1
    have g2 : h2.get b = some (.cells [.ptr b 0, v] 45 .own 0 0) := (a3.get b (by omega)).trans g1
    have hcell : v'.isCell = true := by rcases a2 with ⟨rfl, _⟩ | ⟨c, r, rfl, _⟩ <;> rfl
    have hB : Bld b (h2.set b (some (.cells [.ptr b 0, v'] 45 .own 0 0))) (w ++ s) :=
      ⟨.ptr b 0, v', by rw [AHeap.get_set, if_pos rfl], .inr rfl, a2.ext (by simp) fun c hc _ => by rw [AHeap.get_set, if_neg (by omega)], by have := a3.n; simp; omega⟩
    have hE : Ext b h (h2.set b (some (.cells [.ptr b 0, v'] 45 .own 0 0))) := ((ext_of (by omega) o1).trans (Nat.le_succ b) a3).trans (Nat.le_refl _) (Ext.set (Nat.le_refl _) _)
    refine ⟨_, ?_, hB, hE⟩
    rcases a2 with ⟨rfl, _⟩ | ⟨c, r, rfl, _⟩
    · exact fn_runF (intr := tabIntr Wk) (n := n + 2) (args := [.ptr b 0, .str s]) Tryd.func23 (by kernel_rfl) rfl (by kernel_rfl) (bwr0 (C (n + 2)) b s v h h2 h1 _ c1 (load_c1 g1) a1 (store_c1 rfl g2)) (.inl rfl) (by kernel_rfl)
    · exact fn_runF (intr := tabIntr Wk) (n := n + 2) (args := [.ptr b 0, .str s]) Tryd.func23 (by kernel_rfl) rfl (by kernel_rfl) (bwr (C (n + 2)) b c _ s v h h2 h1 _ c1 (load_c1 g1) a1 (store_c1 rfl g2)) (.inl rfl) (by kernel_rfl)

/-- Room for so many bytes, of one that holds nothing yet. -/
theorem gr_c (n b m : Nat) (h : AHeap) (hg : h.get b = some (.cells [.nilP, .nilS] 45 .own 0 0)) (hb : b < h.n) (hm : 0 < m) (hm2 : m ≤ 1000000000) : ∃ h', C (n + 3) (.fn 22) [.ptr b 0, .int .i64 (Int.ofNat m)] h = .ret (.tup []) h' ∧ Bld b h' [] ∧ Ext b h h' := by
  obtain ⟨h1, c1, g1, n1, o1⟩ := chk_c n b h .nilS hb (.inl hg)
  -- grow
  have hx : ∀ H : AHeap, C (n + 1) (.fn 33) [.int .i64 (Int.ofNat m)] H = .ret (.slice H.n 0 m (.opn 1)) (H.push (.cells (List.replicate m .bad) 5 .opn 0 0)) := by
    intro H
    have hle : Nat.ble m 1099511627776 = true := by simp; omega
    have e1 : Tryd.f33.resultTypes[0]? = some 43 := by kernel_rfl
    have e2 : Tryd.prog.underlying 43 = some (.slice 5) := by kernel_rfl
    have e3 : Tryd.f33.body = none := by kernel_rfl
    have e4 : Tryd.f33.name = "internal/bytealg.MakeNoZero" := by kernel_rfl
    have e5 : tabIntr Wk 33 [.int .i64 (Int.ofNat m)] H = none := rfl
    have hE : externA Tryd.prog Tryd.f33 "internal/bytealg.MakeNoZero" [.int .i64 (Int.ofNat m)] H = some (.slice H.n 0 m (.opn 1), H.push (.cells (List.replicate m .bad) 5 .opn 0 0)) := by
      simp only [externA, e1, e2, hle]; rfl
    unfold C
    simp only [callN, e5, evFn, Tryd.func33, e3, e4, hE]
  let H := (h1.room 13).room 16
  let H2 := H.push (.cells (List.replicate m .bad) 5 .opn 0 0)
  have gH : H2.get b = some (.cells [.ptr b 0, .nilS] 45 .own 0 0) := by
    have : b ≠ H.n := by simp [H]; omega
    simp only [H2, AHeap.get_push, if_neg this]; exact g1
  have gH1 : (h1.room 13).get b = some (.cells [.ptr b 0, .nilS] 45 .own 0 0) := g1
  have gH0 : H.get b = some (.cells [.ptr b 0, .nilS] 45 .own 0 0) := g1
  have hsl : sliceA Tryd.prog H2 43 (.slice H.n 0 m (.opn 1)) none (some (.int .i64 (Int.ofNat 0))) none = some (.slice H.n 0 0 (.opn 1)) := by
    have e2 : Tryd.prog.underlying 43 = some (.slice 5) := by kernel_rfl
    have e3 : sizeT Tryd.prog 5 = some 1 := by kernel_rfl
    have b1 : Nat.ble m m = true := by simp
    have b2 : Nat.ble 0 m = true := by simp
    simp only [sliceA, e2, e3, bounds, optN, asN, b1, b2]
    rfl
  have hcp : copyA Tryd.prog H2 43 (.slice H.n 0 0 (.opn 1)) .nilS = some (.int .i64 (Int.ofNat 0), H2) := by kernel_rfl
  have h29 : C (n + 2) (.fn 29) [.ptr b 0, .int .i64 (Int.ofNat m)] (h1.room 13) = .ret (.tup []) (H2.set b (some (.cells [.ptr b 0, .slice H.n 0 0 (.opn 1)] 45 .own 0 0))) :=
    fn_runF (intr := tabIntr Wk) (n := n + 1) (args := [.ptr b 0, .int .i64 (Int.ofNat m)]) Tryd.func29 (by kernel_rfl) rfl (by kernel_rfl)
      (bgr (C (n + 1)) b m H.n (h1.room 13) H2 _ (load_c1 gH0) (by have := addN (i := 0) (j := m) (by omega); simpa using this) (hx H) (load_c1 gH) hsl hcp (store_c1 rfl gH)) (.inr rfl) (by kernel_rfl)
  refine ⟨_, fn_runF (intr := tabIntr Wk) (n := n + 2) (args := [.ptr b 0, .int .i64 (Int.ofNat m)]) Tryd.func22 (by kernel_rfl) rfl (by kernel_rfl)
    (bgrow_1 (C (n + 2)) b m h h1 _ c1 (load_c1 gH1) (lt_t hm) h29) (.inr rfl) (by kernel_rfl), ?_, ?_⟩
  · refine ⟨.ptr b 0, .slice H.n 0 0 (.opn 1), by rw [AHeap.get_set, if_pos rfl], .inr rfl, .inr ⟨H.n, List.replicate m .bad, rfl, ?_, ?_, ?_⟩, ?_⟩
    · rw [AHeap.get_set, if_neg (by simp [H]; omega)]; simp [H2, AHeap.get_push, byteCells]
    · simp [H]; omega
    · simp [H2, H]
    · simp [H2, H]; omega
  · refine (ext_of (by omega) o1).trans (Nat.le_refl _) ⟨by simp [H2, H]; omega, fun c hc => ?_⟩
    rw [AHeap.get_set, if_neg (by omega)]
    simp only [H2, AHeap.get_push]
    rw [if_neg (by simp [H]; omega)]; rfl

theorem bst_c (n b : Nat) (h : AHeap) (w : List UInt8) (hb : Bld b h w) (hw : w ≠ []) (hl : w.length ≤ 1000000000) : ∃ h', C (n + 1) (.fn 24) [.ptr b 0] h = .ret (.str w) h' ∧ Ext b h h' := by
  obtain ⟨a, v, g, ha, hv, hn⟩ := hb
  rcases hv with ⟨_, rfl⟩ | ⟨c, rest, rfl, hc, hc1, hc2⟩
  · exact absurd rfl hw
  · have hne : w.length ≠ 0 := by cases w <;> simp at hw ⊢
    have hsd : evBuiltin Tryd.prog Builtin.unsafeSliceData (Array.mk [43]) [AV.slice c 0 w.length (Cap.opn 1)] (AHeap.room h 12) = OpRes.val (AV.ptr c 0) (AHeap.room h 12) := by
      simp only [evBuiltin]
      exact if_neg hne
    have hus := unsafeStr_row (P := Tryd.prog) (h := h.room 12) (pT := 55) (u := 5) (c := c) (e := 5) (w := w) (rest := rest) hw (by omega) (by kernel_rfl) (by kernel_rfl) (by kernel_rfl) hc
    exact ⟨_, fn_runF (intr := tabIntr Wk) (n := n) (args := [.ptr b 0]) Tryd.func24 (by kernel_rfl) rfl (by kernel_rfl) (bstr (C n) b c w.length h w _ (load_c1 (h := h.room 12) g) hsd hus) (.inl rfl) (by kernel_rfl),
      (Ext.room b h 12).trans (Nat.le_refl _) (Ext.set (by omega) _)⟩
end Go.Proofs.P05

namespace Go.Proofs.P05
open Go AEv Go.Proofs
set_option maxRecDepth 100000
theorem join_1 (call : CallT → List AV → AHeap → FRes) (b : Nat) (off : Nat) (n : Nat) (cap : Cap) (h : AHeap) (m : Nat) (bb : Nat) (h2 : AHeap) 
    (H1 : eqI (Int.ofNat n) (Int.ofNat 0) = true) :
    RunF Tryd.prog Tryd.f17 none call [] (SSt.mk [(0, AV.slice b off n cap), (1, AV.str [47])] [] Rc.none h) (AEx.ret)
      (SSt.mk [(4, AV.str [])] [] Rc.none h) :=
  sxF_run [4] (hs := [Hint.b true]) (by kernel_rfl) <| .cons H1 <| .nil
theorem join_2 (call : CallT → List AV → AHeap → FRes) (b : Nat) (off : Nat) (n : Nat) (cap : Cap) (h : AHeap) (m : Nat) (bb : Nat) (h2 : AHeap) (t_1 : List UInt8) 
    (H1 : eqI (Int.ofNat n) (Int.ofNat 0) = false)
    (H2 : eqI (Int.ofNat n) (Int.ofNat 1) = true)
    (H3 : Nat.le 1 n)
    (H4 : load1 h b (off + 0 * 1) = some (AV.str t_1)) :
    RunF Tryd.prog Tryd.f17 none call [] (SSt.mk [(0, AV.slice b off n cap), (1, AV.str [47])] [] Rc.none h) (AEx.ret)
      (SSt.mk [(4, AV.str t_1)] [] Rc.none h) :=
  sxF_run [4] (hs := [Hint.b false, Hint.b true, Hint.v (AV.ptr b (off + 0 * 1)), Hint.v (AV.str t_1)]) (by kernel_rfl) <| .cons H1 <| .cons H2 <| .cons (⟨H3, rfl⟩ : Nat.le 1 n ∧ AV.ptr b (off + 0 * 1) = AV.ptr b (off + 0 * 1)) <| .cons H4 <| .nil
theorem join_3 (call : CallT → List AV → AHeap → FRes) (b : Nat) (off : Nat) (n : Nat) (cap : Cap) (h : AHeap) (m : Nat) (bb : Nat) (h2 : AHeap) (n_1 : Nat) (n_2 : Nat) 
    (H1 : eqI (Int.ofNat n) (Int.ofNat 0) = false)
    (H2 : eqI (Int.ofNat n) (Int.ofNat 1) = false)
    (H3 : arith BinOp.sub IntKind.i64 (Int.ofNat n) (Int.ofNat 1) = some (AV.int IntKind.i64 (Int.ofNat n_1)))
    (H4 : arith BinOp.quo IntKind.i64 (Int.ofNat 9223372036854775807) (Int.ofNat n_1) = some (AV.int IntKind.i64 (Int.ofNat n_2)))
    (H5 : leI (Int.ofNat n_2) (Int.ofNat 1) = true) :
    RunF Tryd.prog Tryd.f17 none call [] (SSt.mk [(0, AV.slice b off n cap), (1, AV.str [47])] [] Rc.none h) (AEx.pan (AV.iface 9 (AV.str [115, 116, 114, 105, 110, 103, 115, 58, 32, 74, 111, 105, 110, 32, 111, 117, 116, 112, 117, 116, 32, 108, 101, 110, 103, 116, 104, 32, 111, 118, 101, 114, 102, 108, 111, 119])))
      (SSt.mk [(4, AV.str [])] [] Rc.none h) :=
  sxF_run [4] (hs := [Hint.b false, Hint.b false, Hint.b true, Hint.v (AV.int IntKind.i64 (Int.ofNat n_1)), Hint.v (AV.int IntKind.i64 (Int.ofNat n_2)), Hint.b true]) (by kernel_rfl) <| .cons H1 <| .cons H2 <| .cons (by kernel_rfl : ltI (Int.ofNat 0) (Int.ofNat 1) = true) <| .cons H3 <| .cons H4 <| .cons H5 <| .nil
theorem join_4 (call : CallT → List AV → AHeap → FRes) (b : Nat) (off : Nat) (n : Nat) (cap : Cap) (h : AHeap) (m : Nat) (bb : Nat) (h2 : AHeap) (n_1 : Nat) (n_2 : Nat) (n_3 : Nat) (n_4 : Nat) (g_1 : AHeap) (t_1 : List UInt8) (n_5 : Nat) (v_1 : AV) (g_2 : AHeap) (n_6 : Nat) (n_7 : Nat) (n_8 : Nat) (c_1 : Cap) (t_2 : List UInt8) (g_3 : AHeap) 
    (H1 : eqI (Int.ofNat n) (Int.ofNat 0) = false)
    (H2 : eqI (Int.ofNat n) (Int.ofNat 1) = false)
    (H3 : arith BinOp.sub IntKind.i64 (Int.ofNat n) (Int.ofNat 1) = some (AV.int IntKind.i64 (Int.ofNat n_1)))
    (H4 : arith BinOp.quo IntKind.i64 (Int.ofNat 9223372036854775807) (Int.ofNat n_1) = some (AV.int IntKind.i64 (Int.ofNat n_2)))
    (H5 : leI (Int.ofNat n_2) (Int.ofNat 1) = false)
    (H6 : arith BinOp.mul IntKind.i64 (Int.ofNat 1) (Int.ofNat n_1) = some (AV.int IntKind.i64 (Int.ofNat n_3)))
    (H7 : arith BinOp.add IntKind.i64 (Int.ofNat 0) (Int.ofNat n_3) = some (AV.int IntKind.i64 (Int.ofNat n_4)))
    (H8 : RunF Tryd.prog Tryd.f17 none call [1, 1, 1, 1, 0, 1, 0] (SSt.mk [(41, AV.int IntKind.i64 (Int.ofNat 0)), (40, AV.int IntKind.i64 (Int.ofNat n)), (39, AV.slice b off n cap), (5, AV.int IntKind.i64 (Int.ofNat n_4)), (29, AV.bool (leI (Int.ofNat n_2) (Int.ofNat 1))), (22, AV.bool (ltI (Int.ofNat 0) (Int.ofNat 1))), (15, AV.bool (eqI (Int.ofNat n) (Int.ofNat 1))), (13, AV.bool (eqI (Int.ofNat n) (Int.ofNat 0))), (12, AV.int IntKind.i64 (Int.ofNat n)), (4, AV.str []), (0, AV.slice b off n cap), (1, AV.str [47])] [] Rc.none h) (AEx.exit 1) (SSt.mk [(0, AV.slice b off n cap), (1, AV.str [47]), (5, AV.int IntKind.i64 (Int.ofNat m))] [] Rc.none h))
    (H9 : call (CallT.fn 22) [AV.ptr (AHeap.n h) 0, AV.int IntKind.i64 (Int.ofNat m)] (AHeap.push h (AObj.cells [AV.nilP, AV.nilS] 45 BK.own 0 0)) = FRes.ret (AV.tup []) g_1)
    (H10 : Nat.le 1 n)
    (H11 : load1 g_1 b (off + 0 * 1) = some (AV.str t_1))
    (H12 : call (CallT.fn 23) [AV.ptr (AHeap.n h) 0, AV.str t_1] g_1 = FRes.ret (AV.tup [AV.int IntKind.i64 (Int.ofNat n_5), v_1]) g_2)
    (H13 : sliceA Tryd.prog g_2 27 (AV.slice b off n cap) (some (AV.int IntKind.i64 (Int.ofNat 1))) none none = some (AV.slice n_6 n_7 n_8 c_1))
    (H14 : RunF Tryd.prog Tryd.f17 none call [1, 1, 1, 1, 1, 1, 1, 1, 0, 1, 0] (SSt.mk [(65, AV.int IntKind.i64 (Int.ofNat 0)), (64, AV.int IntKind.i64 (Int.ofNat n_8)), (63, AV.slice n_6 n_7 n_8 c_1), (8, AV.ptr (AHeap.n h) 0), (0, AV.slice b off n cap), (1, AV.str [47]), (5, AV.int IntKind.i64 (Int.ofNat m))] [] Rc.none g_2) (AEx.exit 3) (SSt.mk [(8, AV.ptr bb 0)] [] Rc.none h2))
    (H15 : call (CallT.fn 24) [AV.ptr bb 0] h2 = FRes.ret (AV.str t_2) g_3) :
    RunF Tryd.prog Tryd.f17 none call [] (SSt.mk [(0, AV.slice b off n cap), (1, AV.str [47])] [] Rc.none h) (AEx.ret)
      (SSt.mk [(4, AV.str t_2)] [] Rc.none g_3) :=
  sxF_run [4] (hs := [Hint.b false, Hint.b false, Hint.b true, Hint.v (AV.int IntKind.i64 (Int.ofNat n_1)), Hint.v (AV.int IntKind.i64 (Int.ofNat n_2)), Hint.b false, Hint.v (AV.int IntKind.i64 (Int.ofNat n_1)), Hint.v (AV.int IntKind.i64 (Int.ofNat n_3)), Hint.v (AV.int IntKind.i64 (Int.ofNat n_4)), Hint.loop (AEx.exit 1) (SSt.mk [(0, AV.slice b off n cap), (1, AV.str [47]), (5, AV.int IntKind.i64 (Int.ofNat m))] [] Rc.none h), Hint.c (AV.tup []) g_1, Hint.v (AV.ptr b (off + 0 * 1)), Hint.v (AV.str t_1), Hint.c (AV.tup [AV.int IntKind.i64 (Int.ofNat n_5), v_1]) g_2, Hint.v (AV.slice n_6 n_7 n_8 c_1), Hint.loop (AEx.exit 3) (SSt.mk [(8, AV.ptr bb 0)] [] Rc.none h2), Hint.c (AV.str t_2) g_3]) (by kernel_rfl) <| .cons H1 <| .cons H2 <| .cons (by kernel_rfl : ltI (Int.ofNat 0) (Int.ofNat 1) = true) <| .cons H3 <| .cons H4 <| .cons H5 <| .cons H3 <| .cons H6 <| .cons H7 <| .cons H8 <| .cons H9 <| .cons (⟨H10, rfl⟩ : Nat.le 1 n ∧ AV.ptr b (off + 0 * 1) = AV.ptr b (off + 0 * 1)) <| .cons H11 <| .cons H12 <| .cons H13 <| .cons H14 <| .cons H15 <| .nil
theorem jla_1 (call : CallT → List AV → AHeap → FRes) (e : AV) (sep : AV) (b : Nat) (off : Nat) (n : Nat) (i : Nat) (m : Nat) (cap : Cap) (h : AHeap) (t_1 : List UInt8) (n_1 : Nat) 
    (H1 : ltI (Int.ofNat i) (Int.ofNat n) = true)
    (H2 : Nat.le (Nat.succ i) n)
    (H3 : load1 h b (off + i * 1) = some (AV.str t_1))
    (H4 : arith BinOp.sub IntKind.i64 (Int.ofNat 9223372036854775807) (Int.ofNat m) = some (AV.int IntKind.i64 (Int.ofNat n_1)))
    (H5 : ltI (Int.ofNat n_1) (Int.ofNat (List.length t_1)) = true) :
    RunF Tryd.prog Tryd.f17 none call [1, 1, 1, 1, 0, 1, 0, 0] (SSt.mk [(0, e), (1, sep), (5, AV.int IntKind.i64 (Int.ofNat m)), (39, AV.slice b off n cap), (40, AV.int IntKind.i64 (Int.ofNat n)), (41, AV.int IntKind.i64 (Int.ofNat i))] [] Rc.none h) (AEx.pan (AV.iface 9 (AV.str [115, 116, 114, 105, 110, 103, 115, 58, 32, 74, 111, 105, 110, 32, 111, 117, 116, 112, 117, 116, 32, 108, 101, 110, 103, 116, 104, 32, 111, 118, 101, 114, 102, 108, 111, 119])))
      (SSt.mk [(0, e), (1, sep), (5, AV.int IntKind.i64 (Int.ofNat m)), (39, AV.slice b off n cap), (40, AV.int IntKind.i64 (Int.ofNat n)), (41, AV.int IntKind.i64 (Int.ofNat i))] [] Rc.none h) :=
  sxF_run [0, 1, 5, 39, 40, 41] (hs := [Hint.b true, Hint.v (AV.ptr b (off + i * 1)), Hint.v (AV.str t_1), Hint.v (AV.int IntKind.i64 (Int.ofNat n_1)), Hint.b true]) (by kernel_rfl) <| .cons H1 <| .cons (⟨H2, rfl⟩ : Nat.le (Nat.succ i) n ∧ AV.ptr b (off + i * 1) = AV.ptr b (off + i * 1)) <| .cons H3 <| .cons H4 <| .cons H5 <| .nil
theorem jla_2 (call : CallT → List AV → AHeap → FRes) (e : AV) (sep : AV) (b : Nat) (off : Nat) (n : Nat) (i : Nat) (m : Nat) (cap : Cap) (h : AHeap) (t_1 : List UInt8) (n_1 : Nat) (n_2 : Nat) (n_3 : Nat) 
    (H1 : ltI (Int.ofNat i) (Int.ofNat n) = true)
    (H2 : Nat.le (Nat.succ i) n)
    (H3 : load1 h b (off + i * 1) = some (AV.str t_1))
    (H4 : arith BinOp.sub IntKind.i64 (Int.ofNat 9223372036854775807) (Int.ofNat m) = some (AV.int IntKind.i64 (Int.ofNat n_1)))
    (H5 : ltI (Int.ofNat n_1) (Int.ofNat (List.length t_1)) = false)
    (H6 : arith BinOp.add IntKind.i64 (Int.ofNat m) (Int.ofNat (List.length t_1)) = some (AV.int IntKind.i64 (Int.ofNat n_2)))
    (H7 : arith BinOp.add IntKind.i64 (Int.ofNat i) (Int.ofNat 1) = some (AV.int IntKind.i64 (Int.ofNat n_3))) :
    RunF Tryd.prog Tryd.f17 none call [1, 1, 1, 1, 0, 1, 0, 0] (SSt.mk [(0, e), (1, sep), (5, AV.int IntKind.i64 (Int.ofNat m)), (39, AV.slice b off n cap), (40, AV.int IntKind.i64 (Int.ofNat n)), (41, AV.int IntKind.i64 (Int.ofNat i))] [] Rc.none h) (AEx.nrm)
      (SSt.mk [(0, e), (1, sep), (5, AV.int IntKind.i64 (Int.ofNat n_2)), (39, AV.slice b off n cap), (40, AV.int IntKind.i64 (Int.ofNat n)), (41, AV.int IntKind.i64 (Int.ofNat n_3))] [] Rc.none h) :=
  sxF_run [0, 1, 5, 39, 40, 41] (hs := [Hint.b true, Hint.v (AV.ptr b (off + i * 1)), Hint.v (AV.str t_1), Hint.v (AV.int IntKind.i64 (Int.ofNat n_1)), Hint.b false, Hint.v (AV.int IntKind.i64 (Int.ofNat n_2)), Hint.v (AV.int IntKind.i64 (Int.ofNat n_3))]) (by kernel_rfl) <| .cons H1 <| .cons (⟨H2, rfl⟩ : Nat.le (Nat.succ i) n ∧ AV.ptr b (off + i * 1) = AV.ptr b (off + i * 1)) <| .cons H3 <| .cons H4 <| .cons H5 <| .cons H6 <| .cons H7 <| .nil
theorem jla_3 (call : CallT → List AV → AHeap → FRes) (e : AV) (sep : AV) (b : Nat) (off : Nat) (n : Nat) (i : Nat) (m : Nat) (cap : Cap) (h : AHeap) 
    (H1 : ltI (Int.ofNat i) (Int.ofNat n) = false) :
    RunF Tryd.prog Tryd.f17 none call [1, 1, 1, 1, 0, 1, 0, 0] (SSt.mk [(0, e), (1, sep), (5, AV.int IntKind.i64 (Int.ofNat m)), (39, AV.slice b off n cap), (40, AV.int IntKind.i64 (Int.ofNat n)), (41, AV.int IntKind.i64 (Int.ofNat i))] [] Rc.none h) (AEx.exit 1)
      (SSt.mk [(0, e), (1, sep), (5, AV.int IntKind.i64 (Int.ofNat m)), (39, AV.slice b off n cap), (40, AV.int IntKind.i64 (Int.ofNat n)), (41, AV.int IntKind.i64 (Int.ofNat i))] [] Rc.none h) :=
  sxF_run [0, 1, 5, 39, 40, 41] (hs := [Hint.b false]) (by kernel_rfl) <| .cons H1 <| .nil
theorem jlb_1 (call : CallT → List AV → AHeap → FRes) (bb : Nat) (b : Nat) (off : Nat) (n : Nat) (i : Nat) (cap : Cap) (h : AHeap) (t_1 : List UInt8) (n_1 : Nat) (v_1 : AV) (g_1 : AHeap) (n_2 : Nat) (v_2 : AV) (g_2 : AHeap) (n_3 : Nat) 
    (H1 : ltI (Int.ofNat i) (Int.ofNat n) = true)
    (H2 : Nat.le (Nat.succ i) n)
    (H3 : load1 h b (off + i * 1) = some (AV.str t_1))
    (H4 : call (CallT.fn 23) [AV.ptr bb 0, AV.str [47]] h = FRes.ret (AV.tup [AV.int IntKind.i64 (Int.ofNat n_1), v_1]) g_1)
    (H5 : call (CallT.fn 23) [AV.ptr bb 0, AV.str t_1] g_1 = FRes.ret (AV.tup [AV.int IntKind.i64 (Int.ofNat n_2), v_2]) g_2)
    (H6 : arith BinOp.add IntKind.i64 (Int.ofNat i) (Int.ofNat 1) = some (AV.int IntKind.i64 (Int.ofNat n_3))) :
    RunF Tryd.prog Tryd.f17 none call [1, 1, 1, 1, 1, 1, 1, 1, 0, 1, 0, 0] (SSt.mk [(1, AV.str [47]), (8, AV.ptr bb 0), (63, AV.slice b off n cap), (64, AV.int IntKind.i64 (Int.ofNat n)), (65, AV.int IntKind.i64 (Int.ofNat i))] [] Rc.none h) (AEx.nrm)
      (SSt.mk [(1, AV.str [47]), (8, AV.ptr bb 0), (63, AV.slice b off n cap), (64, AV.int IntKind.i64 (Int.ofNat n)), (65, AV.int IntKind.i64 (Int.ofNat n_3))] [] Rc.none g_2) :=
  sxF_run [1, 8, 63, 64, 65] (hs := [Hint.b true, Hint.v (AV.ptr b (off + i * 1)), Hint.v (AV.str t_1), Hint.c (AV.tup [AV.int IntKind.i64 (Int.ofNat n_1), v_1]) g_1, Hint.c (AV.tup [AV.int IntKind.i64 (Int.ofNat n_2), v_2]) g_2, Hint.v (AV.int IntKind.i64 (Int.ofNat n_3))]) (by kernel_rfl) <| .cons H1 <| .cons (⟨H2, rfl⟩ : Nat.le (Nat.succ i) n ∧ AV.ptr b (off + i * 1) = AV.ptr b (off + i * 1)) <| .cons H3 <| .cons H4 <| .cons H5 <| .cons H6 <| .nil
theorem jlb_2 (call : CallT → List AV → AHeap → FRes) (bb : Nat) (b : Nat) (off : Nat) (n : Nat) (i : Nat) (cap : Cap) (h : AHeap) 
    (H1 : ltI (Int.ofNat i) (Int.ofNat n) = false) :
    RunF Tryd.prog Tryd.f17 none call [1, 1, 1, 1, 1, 1, 1, 1, 0, 1, 0, 0] (SSt.mk [(1, AV.str [47]), (8, AV.ptr bb 0), (63, AV.slice b off n cap), (64, AV.int IntKind.i64 (Int.ofNat n)), (65, AV.int IntKind.i64 (Int.ofNat i))] [] Rc.none h) (AEx.exit 3)
      (SSt.mk [(1, AV.str [47]), (8, AV.ptr bb 0), (63, AV.slice b off n cap), (64, AV.int IntKind.i64 (Int.ofNat n)), (65, AV.int IntKind.i64 (Int.ofNat i))] [] Rc.none h) :=
  sxF_run [1, 8, 63, 64, 65] (hs := [Hint.b false]) (by kernel_rfl) <| .cons H1 <| .nil

/-! ### strings.Join, with a slash -/
def sumLen : List (List UInt8) → Nat
  | [] => 0
  | x :: l => x.length + sumLen l
theorem sumLen_le : ∀ (l : List (List UInt8)) (n : Nat), (∀ x ∈ l, x.length ≤ n) → sumLen l ≤ n * l.length
  | [], n, h => by simp [sumLen]
  | x :: l, n, h => by
    have := sumLen_le l n (fun y hy => h y (by simp [hy]))
    have := h x (by simp)
    simp only [sumLen, List.length_cons, Nat.mul_add]; omega
theorem jl_len (call : CallT → List AV → AHeap → FRes) (e sep : AV) (xs : List (List UInt8)) (vb : Nat) (cap : Cap) (rest : List AV) (k : BK) (lo up ty : Nat) (h : AHeap) (hv : h.get vb = some (.cells (xs.map .str ++ rest) ty k lo up)) (hlen : xs.length ≤ 1000) (hxl : ∀ x ∈ xs, x.length ≤ 50000) :
    ∀ (n i m : Nat), xs.length - i = n → i ≤ xs.length → m ≤ 1000 + 50000 * i → LoopF Tryd.prog Tryd.f17 none call [1, 1, 1, 1, 0, 1, 0] (n + 1) ⟨[(0, e), (1, sep), (5, .int .i64 (Int.ofNat m)), (39, .slice vb 0 xs.length cap), (40, .int .i64 (Int.ofNat xs.length)), (41, .int .i64 (Int.ofNat i))], [], .none, h⟩ (.exit 1) ⟨[(0, e), (1, sep), (5, .int .i64 (Int.ofNat (m + sumLen (xs.drop i))))], [], .none, h⟩
  | 0, i, m, hk, hi, ha => by
    have e0 : xs.drop i = [] := List.drop_eq_nil_of_le (by omega)
    rw [e0]
    exact .exit (RunP.post (jla_3 call e sep vb 0 xs.length i m cap h (lt_f (by omega))) ⟨rfl, rfl, rfl, trivial⟩) (by simp)
  | n + 1, i, m, hk, hi, ha => by
    have hlt : i < xs.length := by omega
    have e0 : xs.drop i = xs[i] :: xs.drop (i + 1) := List.drop_eq_getElem_cons hlt
    have hx := load_at hv hlt
    have hxl' := hxl xs[i] (List.getElem_mem hlt)
    rw [e0]
    refine .step (jla_2 call e sep vb 0 xs.length i m cap h xs[i] _ _ _ (lt_t hlt) hlt hx (sub_n (by omega) (by omega)) (lt_f (by omega)) (add_n (by omega)) (add_n (by omega))) ?_
    have ih := jl_len call e sep xs vb cap rest k lo up ty h hv hlen hxl n (i + 1) (m + xs[i].length) (by omega) (by omega) (by omega)
    simpa [sumLen, Nat.add_assoc] using ih
theorem load_off {h : AHeap} {b e lo up : Nat} {k : BK} {x : List UInt8} {xs : List (List UInt8)} {rest : List AV} (hg : h.get b = some (.cells ((x :: xs).map .str ++ rest) e k lo up)) {i : Nat} (hi : i < xs.length) : load1 h b (1 + i * 1) = some (.str xs[i]) := by
  have := load_at (xs := x :: xs) hg (i := i + 1) (by simpa using hi)
  have e : 0 + (i + 1) * 1 = 1 + i * 1 := by omega
  rw [e] at this; simpa using this
theorem jl_wr (n0 : Nat) (bb : Nat) (x : List UInt8) (xs : List (List UInt8)) (vb : Nat) (cap : Cap) (rest : List AV) (k : BK) (lo up ty : Nat) (hvb : vb < bb) (hlen : xs.length ≤ 1000) (hxl : ∀ x ∈ xs, x.length ≤ 50000) :
    ∀ (n i : Nat) (w : List UInt8) (h : AHeap), xs.length - i = n → i ≤ xs.length → w.length ≤ 60000 * (i + 1) → h.get vb = some (.cells ((x :: xs).map .str ++ rest) ty k lo up) → Bld bb h w →
    ∃ h', LoopF Tryd.prog Tryd.f17 none (C (n0 + 3)) [1, 1, 1, 1, 1, 1, 1, 1, 0, 1, 0] (n + 1) ⟨[(1, .str [47]), (8, .ptr bb 0), (63, .slice vb 1 xs.length cap), (64, .int .i64 (Int.ofNat xs.length)), (65, .int .i64 (Int.ofNat i))], [], .none, h⟩ (.exit 3) ⟨[(8, .ptr bb 0)], [], .none, h'⟩ ∧ Bld bb h' (join1 w (xs.drop i)) ∧ Ext bb h h'
  | 0, i, w, h, hk, hi, hw, hv, hb => by
    have e0 : xs.drop i = [] := List.drop_eq_nil_of_le (by omega)
    rw [e0]
    exact ⟨h, .exit (RunP.post (jlb_2 (C (n0 + 3)) bb vb 1 xs.length i cap h (lt_f (by omega))) ⟨rfl, trivial⟩) (by simp), hb, Ext.refl _ _⟩
  | n + 1, i, w, h, hk, hi, hw, hv, hb => by
    have hlt : i < xs.length := by omega
    have e0 : xs.drop i = xs[i] :: xs.drop (i + 1) := List.drop_eq_getElem_cons hlt
    have hx := load_off hv hlt
    have hxl' := hxl xs[i] (List.getElem_mem hlt)
    obtain ⟨h1, c1, b1, x1⟩ := wr_c n0 bb h w [47] hb (by simp; omega)
    obtain ⟨h2, c2, b2, x2⟩ := wr_c n0 bb h1 (w ++ [47]) xs[i] b1 (by simp; omega)
    have hv2 : h2.get vb = some (.cells ((x :: xs).map .str ++ rest) ty k lo up) := (x2.get vb hvb).trans ((x1.get vb hvb).trans hv)
    obtain ⟨h', l1, l2, l3⟩ := jl_wr n0 bb x xs vb cap rest k lo up ty hvb hlen hxl n (i + 1) (w ++ [47] ++ xs[i]) h2 (by omega) (by omega) (by simp; omega) hv2 b2
    refine ⟨h', .step (jlb_1 (C (n0 + 3)) bb vb 1 xs.length i cap h xs[i] _ _ h1 _ _ h2 _ (lt_t hlt) hlt hx c1 c2 (add_n (by omega))) l1, ?_, x1.trans (Nat.le_refl _) (x2.trans (Nat.le_refl _) l3)⟩
    rw [e0]; exact l2
theorem join1_ne : ∀ (l : List (List UInt8)) (w : List UInt8), w ≠ [] → join1 w l ≠ []
  | [], w, h => h
  | y :: l, w, h => join1_ne l _ (by simp)
theorem join1_len : ∀ (l : List (List UInt8)) (w : List UInt8), (join1 w l).length = w.length + l.length + sumLen l
  | [], w => by simp [join1, sumLen]
  | y :: l, w => by rw [join1, join1_len l]; simp [sumLen]; omega

theorem join_c (n0 : Nat) (x : List UInt8) (xs : List (List UInt8)) (vb : Nat) (rest : List AV) (k : BK) (lo up ty : Nat) (h : AHeap) (hv : h.get vb = some (.cells ((x :: xs).map .str ++ rest) ty k lo up)) (hvb : vb < h.n) (hlen : (x :: xs).length ≤ 1000) (hxl : ∀ y ∈ x :: xs, y.length ≤ 50000) :
    ∃ h', C (n0 + 4) (.fn 17) [.slice vb 0 (x :: xs).length (.opn 1), .str [47]] h = .ret (.str (join1 x xs)) h' ∧ Ext h.n h h' := by
  have hx0 : load1 h vb (0 + 0 * 1) = some (.str x) := load_at (xs := x :: xs) hv (i := 0) (by simp)
  cases xs with
  | nil =>
    exact ⟨h, fn_runF (intr := tabIntr Wk) (n := n0 + 3) (args := [.slice vb 0 [x].length (.opn 1), .str [47]]) Tryd.func17 (by kernel_rfl) rfl (by kernel_rfl)
      (join_2 (C (n0 + 3)) vb 0 1 (.opn 1) h 0 0 h x (by kernel_rfl) (by kernel_rfl) (Nat.le_refl _) hx0) (.inl rfl) (by kernel_rfl), Ext.refl _ _⟩
  | cons y l =>
    have hn2 : (x :: y :: l).length = l.length + 2 := rfl
    have hsum := sumLen_le (x :: y :: l) 50000 hxl
    have hl1 := jl_len (C (n0 + 3)) (.slice vb 0 (x :: y :: l).length (.opn 1)) (.str [47]) (x :: y :: l) vb (.opn 1) rest k lo up ty h hv hlen hxl _ 0 ((x :: y :: l).length - 1) rfl (by simp) (by simp at hlen ⊢; omega)
    rw [List.drop_zero] at hl1
    have loop1 := LoopF.run (p := [1, 1, 1, 1, 0, 1, 0]) (by kernel_rfl) hl1 (by omega)
    -- the builder
    let h1 := h.push (.cells [.nilP, .nilS] 45 .own 0 0)
    have g1 : h1.get h.n = some (.cells [.nilP, .nilS] 45 .own 0 0) := by simp only [h1]; rw [AHeap.get_push, if_pos rfl]
    have x1 : Ext h.n h h1 := Ext.push (Nat.le_refl _) _
    obtain ⟨h2, c2, b2, x2⟩ := gr_c n0 h.n ((x :: y :: l).length - 1 + sumLen (x :: y :: l)) h1 g1 (by simp [h1]) (by omega) (by omega)
    have hv2 : h2.get vb = some (.cells ((x :: y :: l).map .str ++ rest) ty k lo up) := (x2.get vb hvb).trans ((x1.get vb hvb).trans hv)
    have hx2 : load1 h2 vb (0 + 0 * 1) = some (.str x) := load_at (xs := x :: y :: l) hv2 (i := 0) (by simp)
    have hxx := hxl x (by simp)
    obtain ⟨h3, c3, b3, x3⟩ := wr_c n0 h.n h2 [] x b2 (by simp; omega)
    have hv3 : h3.get vb = some (.cells ((x :: y :: l).map .str ++ rest) ty k lo up) := (x3.get vb hvb).trans hv2
    obtain ⟨h4, l4, b4, x4⟩ := jl_wr n0 h.n x (y :: l) vb (.opn 1) rest k lo up ty hvb (by simp at hlen ⊢; omega) (fun z hz => hxl z (by simp at hz ⊢; exact .inr hz)) _ 0 x h3 rfl (by simp) (by omega) hv3 b3
    rw [List.drop_zero] at b4
    have loop2 := LoopF.run (p := [1, 1, 1, 1, 1, 1, 1, 1, 0, 1, 0]) (by kernel_rfl) l4 (by simp at hlen ⊢; omega)
    have hsl : sliceA Tryd.prog h3 27 (.slice vb 0 (x :: y :: l).length (.opn 1)) (some (.int .i64 (Int.ofNat 1))) none none = some (.slice vb 1 (y :: l).length (.opn 1)) := by
      have b1 : Nat.ble (x :: y :: l).length (x :: y :: l).length = true := by simp
      have b2 : Nat.ble 1 (x :: y :: l).length = true := by simp
      have b3 : Nat.blt 1 (x :: y :: l).length = true := by simp [Nat.blt]
      simp only [sliceA, list_under, size9, bounds, optN, asN, b1, b2, b3]
      rfl
    have hj := join1_len (y :: l) x
    have hsum2 := sumLen_le (y :: l) 50000 (fun z hz => hxl z (by simp at hz ⊢; exact .inr hz))
    obtain ⟨h5, c5, x5⟩ := bst_c (n0 + 2) h.n h4 (join1 x (y :: l)) b4 (by
      have : (join1 x (y :: l)).length ≠ 0 := by rw [hj]; simp
      intro hh; rw [hh] at this; exact this rfl) (by rw [hj]; simp only [List.length_cons] at hlen hsum2 ⊢; omega)
    refine ⟨h5, fn_runF (intr := tabIntr Wk) (n := n0 + 3) (args := [.slice vb 0 (x :: y :: l).length (.opn 1), .str [47]]) Tryd.func17 (by kernel_rfl) rfl (by kernel_rfl)
      (join_4 (C (n0 + 3)) vb 0 (x :: y :: l).length (.opn 1) h ((x :: y :: l).length - 1 + sumLen (x :: y :: l)) h.n h4 _ _ _ _ h2 x _ _ h3 _ _ _ _ _ h5 (eq_f (by simp)) (eq_f (by simp)) (sub_n (by simp) (by omega)) (quo_n (by simp) (by omega)) ?_ (mul_n (by simp; omega)) (add_n (by simp; omega)) ?_ c2 (by simp) hx2 c3 hsl ?_ c5) (.inl rfl) (by kernel_rfl), ?_⟩
    · refine le_f ?_
      have h1 : 9223372036854775807 / 1000 ≤ 9223372036854775807 / ((x :: y :: l).length - 1) := Nat.div_le_div_left (by simp at hlen ⊢; omega) (by simp)
      omega
    · have e0 : 0 + 1 * ((x :: y :: l).length - 1) = (x :: y :: l).length - 1 := by omega
      rw [e0]
      exact RunP.pre loop1 ⟨rfl, rfl, rfl, rfl, rfl, rfl, trivial⟩ rfl rfl rfl
    · exact RunP.pre loop2 ⟨rfl, rfl, rfl, rfl, rfl, trivial⟩ rfl rfl rfl
    · exact x1.trans (Nat.le_refl _) (x2.trans (Nat.le_refl _) (x3.trans (Nat.le_refl _) (x4.trans (Nat.le_refl _) x5)))
end Go.Proofs.P05

namespace Go.Proofs.P05
open Go AEv Go.Proofs
set_option maxRecDepth 100000
theorem cl_0 (call : CallT → List AV → AHeap → FRes) (s : List UInt8) (h : AHeap)  :
    RunF Tryd.prog Tryd.f7 none call [0] (SSt.mk [(0, AV.str s)] [] Rc.none h) (AEx.nrm)
      (SSt.mk [(0, AV.str s), (2, AV.ptr (AHeap.n h) 0), (3, AV.ptr (AHeap.n (AHeap.push h (AObj.cells [AV.str []] 9 BK.own 0 0))) 0)] [] Rc.none (AHeap.push (AHeap.push h (AObj.cells [AV.str []] 9 BK.own 0 0)) (AObj.cells [AV.int IntKind.i64 (Int.ofNat 0)] 22 BK.own 0 0))) :=
  sxF_run [0, 2, 3] (hs := []) (by kernel_rfl) <| .nil
theorem cl_1 (call : CallT → List AV → AHeap → FRes) (s : List UInt8) (h : AHeap) (a : Nat) (b : Nat)  :
    RunF Tryd.prog Tryd.f7 none call [1, 0] (SSt.mk [(0, AV.str s), (2, AV.ptr a 0), (3, AV.ptr b 0)] [] Rc.none h) (AEx.nrm)
      (SSt.mk [(0, AV.str s), (2, AV.ptr a 0), (3, AV.ptr b 0)] [ADef.call 13 [AV.ptr a 0, AV.ptr b 0]] Rc.none h) :=
  sxF_run [0, 2, 3] (hs := []) (by kernel_rfl) <| .nil
theorem cl_2 (call : CallT → List AV → AHeap → FRes) (s : List UInt8) (h : AHeap) (d : List ADef) (a : Nat) (b : Nat)  :
    RunF Tryd.prog Tryd.f7 none call [1, 1, 0] (SSt.mk [(0, AV.str s), (2, AV.ptr a 0), (3, AV.ptr b 0)] d Rc.none h) (AEx.nrm)
      (SSt.mk [(0, AV.str s), (2, AV.ptr a 0), (3, AV.ptr b 0), (4, AV.ptr (AHeap.n h) 0)] d Rc.none (AHeap.push h (AObj.cells [AV.nilS] 27 BK.own 0 0))) :=
  sxF_run [0, 2, 3, 4] (hs := []) (by kernel_rfl) <| .nil
theorem cl_3 (call : CallT → List AV → AHeap → FRes) (s : List UInt8) (v : AV) (h : AHeap) (h' : AHeap) (d : List ADef) (a : Nat) (b : Nat) (c : Nat) 
    (H1 : call (CallT.fn 14) [AV.str s, AV.str [47]] h = FRes.ret v h') :
    RunF Tryd.prog Tryd.f7 none call [1, 1, 1, 0, 0] (SSt.mk [(0, AV.str s), (2, AV.ptr a 0), (3, AV.ptr b 0), (4, AV.ptr c 0)] d Rc.none h) (AEx.nrm)
      (SSt.mk [(2, AV.ptr a 0), (3, AV.ptr b 0), (4, AV.ptr c 0), (8, v)] d Rc.none h') :=
  sxF_run [2, 3, 4, 8] (hs := [Hint.c v h']) (by kernel_rfl) <| .cons H1 <| .nil
theorem cl_as (call : CallT → List AV → AHeap → FRes) (l : Nat) (c : Nat) (p : List UInt8) (h : AHeap)  :
    RunF Tryd.prog Tryd.f7 (some l) call [1, 1, 1, 0, 1, 0, 0] (SSt.mk [(9, AV.str p), (4, AV.ptr c 0)] [] Rc.none h) (AEx.nrm)
      (SSt.mk [(4, AV.ptr c 0), (5, AV.str p)] [] Rc.none h) :=
  sxF_run [4, 5] (hs := []) (by kernel_rfl) <| .nil
theorem cl_e (call : CallT → List AV → AHeap → FRes) (l : Nat) (c : Nat) (h : AHeap)  :
    RunF Tryd.prog Tryd.f7 (some l) call [1, 1, 1, 0, 1, 0, 1] (SSt.mk [(5, AV.str []), (4, AV.ptr c 0)] [] Rc.none h) (AEx.nrm)
      (SSt.mk [(4, AV.ptr c 0)] [] Rc.none h) :=
  sxF_run [4] (hs := [Hint.b true, Hint.b true]) (by kernel_rfl) <| .cons (by kernel_rfl : beqBytes [] [] = true) <| .cons (by kernel_rfl : beqBytes [] [] = true) <| .nil
theorem cl_d (call : CallT → List AV → AHeap → FRes) (l : Nat) (c : Nat) (h : AHeap)  :
    RunF Tryd.prog Tryd.f7 (some l) call [1, 1, 1, 0, 1, 0, 1] (SSt.mk [(5, AV.str [46]), (4, AV.ptr c 0)] [] Rc.none h) (AEx.nrm)
      (SSt.mk [(4, AV.ptr c 0)] [] Rc.none h) :=
  sxF_run [4] (hs := [Hint.b false, Hint.b true]) (by kernel_rfl) <| .cons (by kernel_rfl : beqBytes [46] [] = false) <| .cons (by kernel_rfl : beqBytes [46] [46] = true) <| .nil
theorem cl_u0 (call : CallT → List AV → AHeap → FRes) (l : Nat) (c : Nat) (h : AHeap) 
    (H1 : load1 h c 0 = some AV.nilS)
    (H2 : call (CallT.fn 15) [AV.bool (ltI (Int.ofNat 0) (Int.ofNat 0))] h = FRes.pan (AV.iface 33 (AV.agg [])) h) :
    RunF Tryd.prog Tryd.f7 (some l) call [1, 1, 1, 0, 1, 0, 1] (SSt.mk [(5, AV.str [46, 46]), (4, AV.ptr c 0)] [] Rc.none h) (AEx.pan (AV.iface 33 (AV.agg [])))
      (SSt.mk [(4, AV.ptr c 0)] [] Rc.none h) :=
  sxF_run [4] (hs := [Hint.b false, Hint.b false, Hint.b true, Hint.v AV.nilS, Hint.p (AV.iface 33 (AV.agg [])) h]) (by kernel_rfl) <| .cons (by kernel_rfl : beqBytes [46, 46] [] = false) <| .cons (by kernel_rfl : beqBytes [46, 46] [46] = false) <| .cons (by kernel_rfl : beqBytes [46, 46] [46, 46] = true) <| .cons H1 <| .cons H2 <| .nil
theorem cl_u1 (call : CallT → List AV → AHeap → FRes) (l : Nat) (c : Nat) (b : Nat) (n : Nat) (h : AHeap) 
    (H1 : load1 h c 0 = some (AV.slice b 0 n (Cap.opn 1)))
    (H2 : call (CallT.fn 15) [AV.bool (ltI (Int.ofNat 0) (Int.ofNat n))] h = FRes.pan (AV.iface 33 (AV.agg [])) h) :
    RunF Tryd.prog Tryd.f7 (some l) call [1, 1, 1, 0, 1, 0, 1] (SSt.mk [(5, AV.str [46, 46]), (4, AV.ptr c 0)] [] Rc.none h) (AEx.pan (AV.iface 33 (AV.agg [])))
      (SSt.mk [(4, AV.ptr c 0)] [] Rc.none h) :=
  sxF_run [4] (hs := [Hint.b false, Hint.b false, Hint.b true, Hint.v (AV.slice b 0 n (Cap.opn 1)), Hint.p (AV.iface 33 (AV.agg [])) h]) (by kernel_rfl) <| .cons (by kernel_rfl : beqBytes [46, 46] [] = false) <| .cons (by kernel_rfl : beqBytes [46, 46] [46] = false) <| .cons (by kernel_rfl : beqBytes [46, 46] [46, 46] = true) <| .cons H1 <| .cons H2 <| .nil
theorem cl_u (call : CallT → List AV → AHeap → FRes) (l : Nat) (c : Nat) (b : Nat) (n : Nat) (m : Nat) (h : AHeap) (g_1 : AHeap) 
    (H1 : load1 h c 0 = some (AV.slice b 0 n (Cap.opn 1)))
    (H2 : call (CallT.fn 15) [AV.bool (ltI (Int.ofNat 0) (Int.ofNat n))] h = FRes.ret (AV.tup []) h)
    (H3 : arith BinOp.sub IntKind.i64 (Int.ofNat n) (Int.ofNat 1) = some (AV.int IntKind.i64 (Int.ofNat m)))
    (H4 : sliceA Tryd.prog h 27 (AV.slice b 0 n (Cap.opn 1)) none (some (AV.int IntKind.i64 (Int.ofNat m))) none = some (AV.slice b 0 m (Cap.opn 1)))
    (H5 : AEv.storeCells h c 0 [AV.slice b 0 m (Cap.opn 1)] = some g_1) :
    RunF Tryd.prog Tryd.f7 (some l) call [1, 1, 1, 0, 1, 0, 1] (SSt.mk [(5, AV.str [46, 46]), (4, AV.ptr c 0)] [] Rc.none h) (AEx.nrm)
      (SSt.mk [(4, AV.ptr c 0)] [] Rc.none g_1) :=
  sxF_run [4] (hs := [Hint.b false, Hint.b false, Hint.b true, Hint.v (AV.slice b 0 n (Cap.opn 1)), Hint.c (AV.tup []) h, Hint.v (AV.slice b 0 n (Cap.opn 1)), Hint.v (AV.slice b 0 n (Cap.opn 1)), Hint.v (AV.int IntKind.i64 (Int.ofNat m)), Hint.v (AV.slice b 0 m (Cap.opn 1)), Hint.vh (AV.tup []) g_1]) (by kernel_rfl) <| .cons (by kernel_rfl : beqBytes [46, 46] [] = false) <| .cons (by kernel_rfl : beqBytes [46, 46] [46] = false) <| .cons (by kernel_rfl : beqBytes [46, 46] [46, 46] = true) <| .cons H1 <| .cons H2 <| .cons H1 <| .cons H1 <| .cons H3 <| .cons H4 <| .cons (⟨by kernel_rfl, H5, rfl⟩ : some 1 = some 1 ∧ AEv.storeCells h c 0 [AV.slice b 0 m (Cap.opn 1)] = some g_1 ∧ AV.tup [] = AV.tup []) <| .nil
theorem cl_bad (call : CallT → List AV → AHeap → FRes) (l : Nat) (c : Nat) (p : List UInt8) (h : AHeap) 
    (H1 : beqBytes p [] = false)
    (H2 : beqBytes p [46] = false)
    (H3 : beqBytes p [46, 46] = false)
    (H4 : call (CallT.fn 16) [AV.str p] h = FRes.ret (AV.bool false) h)
    (H5 : call (CallT.fn 15) [AV.bool false] h = FRes.pan (AV.iface 33 (AV.agg [])) h) :
    RunF Tryd.prog Tryd.f7 (some l) call [1, 1, 1, 0, 1, 0, 1] (SSt.mk [(5, AV.str p), (4, AV.ptr c 0)] [] Rc.none h) (AEx.pan (AV.iface 33 (AV.agg [])))
      (SSt.mk [(4, AV.ptr c 0)] [] Rc.none h) :=
  sxF_run [4] (hs := [Hint.b false, Hint.b false, Hint.b false, Hint.c (AV.bool false) h, Hint.p (AV.iface 33 (AV.agg [])) h]) (by kernel_rfl) <| .cons H1 <| .cons H2 <| .cons H3 <| .cons H4 <| .cons H5 <| .nil
theorem cl_add (call : CallT → List AV → AHeap → FRes) (l : Nat) (c : Nat) (b : Nat) (m : Nat) (v : AV) (p : List UInt8) (h : AHeap) (h1 : AHeap) (h2 : AHeap) 
    (H1 : beqBytes p [] = false)
    (H2 : beqBytes p [46] = false)
    (H3 : beqBytes p [46, 46] = false)
    (H4 : call (CallT.fn 16) [AV.str p] h = FRes.ret (AV.bool true) h)
    (H5 : call (CallT.fn 15) [AV.bool true] h = FRes.ret (AV.tup []) h)
    (H6 : load1 h c 0 = some v)
    (H7 : appendA Tryd.prog (AHeap.push h (AObj.cells [AV.str p] 9 BK.own 0 0)) 27 (some 27) v (AV.slice (AHeap.n h) 0 1 (Cap.exact 1)) = some (AV.slice b 0 m (Cap.opn 1), h1))
    (H8 : AEv.storeCells h1 c 0 [AV.slice b 0 m (Cap.opn 1)] = some h2) :
    RunF Tryd.prog Tryd.f7 (some l) call [1, 1, 1, 0, 1, 0, 1] (SSt.mk [(5, AV.str p), (4, AV.ptr c 0)] [] Rc.none h) (AEx.nrm)
      (SSt.mk [(4, AV.ptr c 0)] [] Rc.none h2) :=
  sxF_run [4] (hs := [Hint.b false, Hint.b false, Hint.b false, Hint.c (AV.bool true) h, Hint.c (AV.tup []) h, Hint.v v, Hint.vh (AV.slice b 0 m (Cap.opn 1)) h1, Hint.vh (AV.tup []) h2]) (by kernel_rfl) <| .cons H1 <| .cons H2 <| .cons H3 <| .cons H4 <| .cons H5 <| .cons H6 <| .cons H7 <| .cons (⟨by kernel_rfl, H8, rfl⟩ : some 1 = some 1 ∧ AEv.storeCells h1 c 0 [AV.slice b 0 m (Cap.opn 1)] = some h2 ∧ AV.tup [] = AV.tup []) <| .nil
theorem cl_m0 (call : CallT → List AV → AHeap → FRes) (a : Nat) (a2 : Nat) (c : Nat) (d : List ADef) (h : AHeap) 
    (H1 : load1 h c 0 = some AV.nilS)
    (H2 : call (CallT.fn 15) [AV.bool false] h = FRes.pan (AV.iface 33 (AV.agg [])) h) :
    RunF Tryd.prog Tryd.f7 none call [1, 1, 1, 1, 0] (SSt.mk [(2, AV.ptr a 0), (3, AV.ptr a2 0), (4, AV.ptr c 0)] d Rc.none h) (AEx.pan (AV.iface 33 (AV.agg [])))
      (SSt.mk [(2, AV.ptr a 0), (3, AV.ptr a2 0)] d Rc.none h) :=
  sxF_run [2, 3] (hs := [Hint.v AV.nilS, Hint.b false, Hint.b false, Hint.b false, Hint.b false, Hint.p (AV.iface 33 (AV.agg [])) h]) (by kernel_rfl) <| .cons H1 <| .cons (by kernel_rfl : ltI (Int.ofNat 0) (Int.ofNat 0) = false) <| .cons (by kernel_rfl : ltI (Int.ofNat 0) (Int.ofNat 0) = false) <| .cons (by kernel_rfl : ltI (Int.ofNat 0) (Int.ofNat 0) = false) <| .cons (by kernel_rfl : ltI (Int.ofNat 0) (Int.ofNat 0) = false) <| .cons H2 <| .nil
theorem cl_m1_1 (call : CallT → List AV → AHeap → FRes) (a : Nat) (a2 : Nat) (c : Nat) (b : Nat) (n : Nat) (d : List ADef) (h : AHeap) 
    (H1 : load1 h c 0 = some (AV.slice b 0 n (Cap.opn 1)))
    (H2 : ltI (Int.ofNat 0) (Int.ofNat n) = true)
    (H3 : call (CallT.fn 15) [AV.bool (leI (Int.ofNat n) (Int.ofNat 8))] h = FRes.pan (AV.iface 33 (AV.agg [])) h) :
    RunF Tryd.prog Tryd.f7 none call [1, 1, 1, 1, 0] (SSt.mk [(2, AV.ptr a 0), (3, AV.ptr a2 0), (4, AV.ptr c 0)] d Rc.none h) (AEx.pan (AV.iface 33 (AV.agg [])))
      (SSt.mk [(2, AV.ptr a 0), (3, AV.ptr a2 0)] d Rc.none h) :=
  sxF_run [2, 3] (hs := [Hint.v (AV.slice b 0 n (Cap.opn 1)), Hint.b true, Hint.v (AV.slice b 0 n (Cap.opn 1)), Hint.b true, Hint.b true, Hint.b true, Hint.p (AV.iface 33 (AV.agg [])) h]) (by kernel_rfl) <| .cons H1 <| .cons H2 <| .cons H1 <| .cons H2 <| .cons H2 <| .cons H2 <| .cons H3 <| .nil
theorem cl_m1_2 (call : CallT → List AV → AHeap → FRes) (a : Nat) (a2 : Nat) (c : Nat) (b : Nat) (n : Nat) (d : List ADef) (h : AHeap) 
    (H1 : load1 h c 0 = some (AV.slice b 0 n (Cap.opn 1)))
    (H2 : ltI (Int.ofNat 0) (Int.ofNat n) = false)
    (H3 : call (CallT.fn 15) [AV.bool false] h = FRes.pan (AV.iface 33 (AV.agg [])) h) :
    RunF Tryd.prog Tryd.f7 none call [1, 1, 1, 1, 0] (SSt.mk [(2, AV.ptr a 0), (3, AV.ptr a2 0), (4, AV.ptr c 0)] d Rc.none h) (AEx.pan (AV.iface 33 (AV.agg [])))
      (SSt.mk [(2, AV.ptr a 0), (3, AV.ptr a2 0)] d Rc.none h) :=
  sxF_run [2, 3] (hs := [Hint.v (AV.slice b 0 n (Cap.opn 1)), Hint.b false, Hint.b false, Hint.b false, Hint.b false, Hint.p (AV.iface 33 (AV.agg [])) h]) (by kernel_rfl) <| .cons H1 <| .cons H2 <| .cons H2 <| .cons H2 <| .cons H2 <| .cons H3 <| .nil
theorem cl_m_1 (call : CallT → List AV → AHeap → FRes) (a : Nat) (a2 : Nat) (c : Nat) (b : Nat) (n : Nat) (d : List ADef) (h : AHeap) 
    (H1 : load1 h c 0 = some (AV.slice b 0 n (Cap.opn 1)))
    (H2 : ltI (Int.ofNat 0) (Int.ofNat n) = true)
    (H3 : call (CallT.fn 15) [AV.bool (leI (Int.ofNat n) (Int.ofNat 8))] h = FRes.ret (AV.tup []) h) :
    RunF Tryd.prog Tryd.f7 none call [1, 1, 1, 1, 0] (SSt.mk [(2, AV.ptr a 0), (3, AV.ptr a2 0), (4, AV.ptr c 0)] d Rc.none h) (AEx.nrm)
      (SSt.mk [(2, AV.ptr a 0), (3, AV.ptr a2 0), (4, AV.ptr c 0)] d Rc.none h) :=
  sxF_run [2, 3, 4] (hs := [Hint.v (AV.slice b 0 n (Cap.opn 1)), Hint.b true, Hint.v (AV.slice b 0 n (Cap.opn 1)), Hint.b true, Hint.b true, Hint.b true, Hint.c (AV.tup []) h]) (by kernel_rfl) <| .cons H1 <| .cons H2 <| .cons H1 <| .cons H2 <| .cons H2 <| .cons H2 <| .cons H3 <| .nil
theorem cl_m_2 (call : CallT → List AV → AHeap → FRes) (a : Nat) (a2 : Nat) (c : Nat) (b : Nat) (n : Nat) (d : List ADef) (h : AHeap) 
    (H1 : load1 h c 0 = some (AV.slice b 0 n (Cap.opn 1)))
    (H2 : ltI (Int.ofNat 0) (Int.ofNat n) = false)
    (H3 : call (CallT.fn 15) [AV.bool false] h = FRes.ret (AV.tup []) h) :
    RunF Tryd.prog Tryd.f7 none call [1, 1, 1, 1, 0] (SSt.mk [(2, AV.ptr a 0), (3, AV.ptr a2 0), (4, AV.ptr c 0)] d Rc.none h) (AEx.nrm)
      (SSt.mk [(2, AV.ptr a 0), (3, AV.ptr a2 0), (4, AV.ptr c 0)] d Rc.none h) :=
  sxF_run [2, 3, 4] (hs := [Hint.v (AV.slice b 0 n (Cap.opn 1)), Hint.b false, Hint.b false, Hint.b false, Hint.b false, Hint.c (AV.tup []) h]) (by kernel_rfl) <| .cons H1 <| .cons H2 <| .cons H2 <| .cons H2 <| .cons H2 <| .cons H3 <| .nil
theorem cl_j (call : CallT → List AV → AHeap → FRes) (a : Nat) (a2 : Nat) (c : Nat) (b : Nat) (n : Nat) (d : List ADef) (h : AHeap) (t_1 : List UInt8) (g_1 : AHeap) (g_2 : AHeap) (g_3 : AHeap) 
    (H1 : load1 h c 0 = some (AV.slice b 0 n (Cap.opn 1)))
    (H2 : call (CallT.fn 17) [AV.slice b 0 n (Cap.opn 1), AV.str [47]] h = FRes.ret (AV.str t_1) g_1)
    (H3 : AEv.storeCells g_1 a 0 [AV.str t_1] = some g_2)
    (H4 : AEv.storeCells g_2 a2 0 [AV.int IntKind.i64 (Int.ofNat 0)] = some g_3) :
    RunF Tryd.prog Tryd.f7 none call [1, 1, 1, 1, 1] (SSt.mk [(2, AV.ptr a 0), (3, AV.ptr a2 0), (4, AV.ptr c 0)] d Rc.none h) (AEx.ret)
      (SSt.mk [(2, AV.ptr a 0), (3, AV.ptr a2 0)] d Rc.none g_3) :=
  sxF_run [2, 3] (hs := [Hint.v (AV.slice b 0 n (Cap.opn 1)), Hint.c (AV.str t_1) g_1, Hint.vh (AV.tup []) g_2, Hint.vh (AV.tup []) g_3]) (by kernel_rfl) <| .cons H1 <| .cons H2 <| .cons (⟨by kernel_rfl, H3, rfl⟩ : some 1 = some 1 ∧ AEv.storeCells g_1 a 0 [AV.str t_1] = some g_2 ∧ AV.tup [] = AV.tup []) <| .cons (⟨by kernel_rfl, H4, rfl⟩ : some 1 = some 1 ∧ AEv.storeCells g_2 a2 0 [AV.int IntKind.i64 (Int.ofNat 0)] = some g_3 ∧ AV.tup [] = AV.tup []) <| .nil
theorem rec_no (call : CallT → List AV → AHeap → FRes) (a : Nat) (b : Nat) (h : AHeap)  :
    RunF Tryd.prog Tryd.f13 none call [] (SSt.mk [(0, AV.ptr a 0), (1, AV.ptr b 0)] [] Rc.none h) (AEx.nrm)
      (SSt.mk [] [] Rc.none h) :=
  sxF_run [] (hs := [Hint.v (AV.bool !true), Hint.b false]) (by kernel_rfl) <| .cons (by kernel_rfl : binA Tryd.prog h BinOp.neq 20 (Operand.tmp 4) (Operand.const Value.nilIface) AV.nilI AV.nilI = some (AV.bool !true)) <| .cons (by kernel_rfl : (!true) = false) <| .nil
theorem rec_pan (call : CallT → List AV → AHeap → FRes) (a : Nat) (b : Nat) (h : AHeap) (g_1 : AHeap) (g_2 : AHeap) 
    (H1 : AEv.storeCells h a 0 [AV.str []] = some g_1)
    (H2 : AEv.storeCells g_1 b 0 [AV.int IntKind.i64 (Int.ofNat 6)] = some g_2) :
    RunF Tryd.prog Tryd.f13 none call [] (SSt.mk [(0, AV.ptr a 0), (1, AV.ptr b 0)] [] (Rc.act (AV.iface 33 (AV.agg []))) h) (AEx.nrm)
      (SSt.mk [] [] (Rc.done (AV.iface 33 (AV.agg []))) g_2) :=
  sxF_run [] (hs := [Hint.v (AV.bool !false), Hint.b true, Hint.vh (AV.tup []) g_1, Hint.vh (AV.tup []) g_2]) (by kernel_rfl) <| .cons (by kernel_rfl : binA Tryd.prog h BinOp.neq 20 (Operand.tmp 4) (Operand.const Value.nilIface) (AV.iface 33 (AV.agg [])) AV.nilI = some (AV.bool !false)) <| .cons (by kernel_rfl : (!false) = true) <| .cons (⟨by kernel_rfl, H1, rfl⟩ : some 1 = some 1 ∧ AEv.storeCells h a 0 [AV.str []] = some g_1 ∧ AV.tup [] = AV.tup []) <| .cons (⟨by kernel_rfl, H2, rfl⟩ : some 1 = some 1 ∧ AEv.storeCells g_1 b 0 [AV.int IntKind.i64 (Int.ofNat 6)] = some g_2 ∧ AV.tup [] = AV.tup []) <| .nil

theorem must_c (n : Nat) (h : AHeap) : C (n + 1) (.fn 15) [.bool true] h = .ret (.tup []) h :=
  fn_runF (intr := tabIntr Wk) (n := n) (args := [.bool true]) Tryd.func15 (by kernel_rfl) rfl (by kernel_rfl) (must_ok (C n) h) (.inr rfl) (by kernel_rfl)
def Wn : AV := .iface 33 (.agg [])
theorem must_p (n : Nat) (h : AHeap) : C (n + 1) (.fn 15) [.bool false] h = .pan Wn h :=
  fn_panF (intr := tabIntr Wk) (n := n) (args := [.bool false]) Tryd.func15 (by kernel_rfl) rfl (by kernel_rfl) (must_pan (C n) h)

theorem _root_.AEv.Row1.ext {B e : Nat} {h h' : AHeap} {v : AV} {xs : List AV} (hr : Row1 B e h v xs) (hn : h.n ≤ h'.n) (hg : ∀ c, B ≤ c → c < h.n → h'.get c = h.get c) : Row1 B e h' v xs := by
  rcases hr with h1 | ⟨c, rest, h1, h2, h3, h4, h5⟩
  · exact .inl h1
  · exact .inr ⟨c, rest, h1, (hg c h3 h4).trans h2, h3, by omega, h5⟩
theorem _root_.AEv.Row1.cell {B e : Nat} {h : AHeap} {v : AV} {xs : List AV} (hr : Row1 B e h v xs) : v.isCell = true := by
  rcases hr with ⟨rfl, _⟩ | ⟨c, r, rfl, _⟩ <;> rfl

/-- The loop's parts in path.Clean. -/
noncomputable def clAs : Code := sub (bodyOf Tryd.f7) [1, 1, 1, 0, 1, 0, 0]
noncomputable def clBd : Code := sub (bodyOf Tryd.f7) [1, 1, 1, 0, 1, 0, 1]
/-- What lies where, in path.Clean's loop. -/
structure ClF (N : Nat) (h x : AHeap) (txt : List UInt8) (v : AV) (st : List (List UInt8)) : Prop where
  lst : x.get (N + 2) = some (.cells [v] 27 .own 0 0)
  row : Row1 (N + 8) 9 x v (st.map .str)
  seg : ∀ y ∈ st, segL y = true
  ans : x.get N = some (.cells [.str []] 9 .own 0 0)
  err : x.get (N + 1) = some (.cells [.int .i64 (Int.ofNat 0)] 22 .own 0 0)
  txt : x.get (N + 3) = some (.cells [.str txt] 9 .own 0 0)
  sep : x.get (N + 4) = some (.cells [.str [47]] 9 .own 0 0)
  num : x.get (N + 5) = some (.cells [.int .i64 (Int.ofNat 0)] 3 .own 0 0)
  dfr : x.get (N + 6) = some (.defrd (some []))
  ext : Ext N h x
  big : N + 8 ≤ x.n
theorem ClF.setl {N : Nat} {h x : AHeap} {t : List UInt8} {v : AV} {st : List (List UInt8)} (hf : ClF N h x t v st) (o : Option AObj) : ClF N h (x.set (N + 7) o) t v st := by
  obtain ⟨a1, a2, a3, a4, a5, a6, a7, a8, a9, a10, a11⟩ := hf
  refine ⟨?_, a2.ext (by simp) (fun c hc _ => by rw [AHeap.get_set, if_neg (by omega)]), a3, ?_, ?_, ?_, ?_, ?_, ?_, a10.trans (Nat.le_refl _) (Ext.set (by omega) _), by simpa using a11⟩ <;> (rw [AHeap.get_set, if_neg (by omega)]; assumption)
theorem ClF.sett {N : Nat} {h x : AHeap} {t : List UInt8} {v : AV} {st : List (List UInt8)} (hf : ClF N h x t v st) (t' : List UInt8) : ClF N h (x.set (N + 3) (some (.cells [.str t'] 9 .own 0 0))) t' v st := by
  obtain ⟨a1, a2, a3, a4, a5, a6, a7, a8, a9, a10, a11⟩ := hf
  refine ⟨?_, a2.ext (by simp) (fun c hc _ => by rw [AHeap.get_set, if_neg (by omega)]), a3, ?_, ?_, by rw [AHeap.get_set, if_pos rfl], ?_, ?_, ?_, a10.trans (Nat.le_refl _) (Ext.set (by omega) _), by simpa using a11⟩ <;> (rw [AHeap.get_set, if_neg (by omega)]; assumption)
/-- Another list. -/
theorem ClF.setv {N : Nat} {h x y : AHeap} {t : List UInt8} {v v' : AV} {st st' : List (List UInt8)} (hf : ClF N h x t v st) (he : Ext (N + 8) x y) (hr : Row1 (N + 8) 9 y v' (st'.map .str)) (hs : ∀ y ∈ st', segL y = true) : ClF N h (y.set (N + 2) (some (.cells [v'] 27 .own 0 0))) t v' st' := by
  obtain ⟨a1, a2, a3, a4, a5, a6, a7, a8, a9, a10, a11⟩ := hf
  have hn := he.n
  refine ⟨by rw [AHeap.get_set, if_pos rfl], hr.ext (by simp) (fun c hc _ => by rw [AHeap.get_set, if_neg (by omega)]), hs, ?_, ?_, ?_, ?_, ?_, ?_, (a10.trans (Nat.le_add_right N 8) he).trans (Nat.le_refl _) (Ext.set (by omega) _), by simp; omega⟩ <;> (rw [AHeap.get_set, if_neg (by omega), he.get _ (by omega)]; assumption)

/-- A round of path.Clean's loop. -/
theorem cl_round (call : CallT → List AV → AHeap → FRes) (l c df need : Nat) (p : List UInt8) {x x2 : AHeap} {r : Tr} {e : AEx} {Γ : Env} {q : Rc} (hn : need = needFn Tryd.f7) (hg : x.get l = some (.loop .ready none need r [9] clAs clBd df)) (hm : AEv.Mod r [(4, .ptr c 0)])
    (hb : RunF Tryd.prog Tryd.f7 (some l) call [1, 1, 1, 0, 1, 0, 1] ⟨[(5, .str p), (4, .ptr c 0)], [], .none, x.set l (some (.loop .busy none need r [9] clAs clBd df))⟩ e ⟨Γ, [], q, x2⟩) (hk : x2.get l = some (.loop .busy none need r [9] clAs clBd df)) :
    evRound Tryd.prog call l [.str p] x = roundR l e need r [9] clAs clBd df x2 := by
  subst hn
  have has : RunP Tryd.prog (needFn Tryd.f7) (some l) call clAs ⟨put 9 (.str p) [(4, .ptr c 0)], [], .none, x⟩ .nrm ⟨[(4, .ptr c 0), (5, .str p)], [], .none, x⟩ :=
    RunP.pre (st1 := ⟨put 9 (.str p) [(4, .ptr c 0)], [], .none, x⟩) (cl_as call l c p x) ⟨rfl, rfl, trivial⟩ rfl rfl rfl
  exact round1 hg hm has (RunP.pre (st1 := ⟨[(4, .ptr c 0), (5, .str p)], [], .none, x.set l (some (.loop .busy none (needFn Tryd.f7) r [9] clAs clBd df))⟩) hb ⟨rfl, rfl, trivial⟩ rfl rfl rfl) hk

theorem cl_rnd (m : Nat) {N : Nat} {h x : AHeap} {r : Tr} {t p : List UInt8} {v : AV} {st : List (List UInt8)} (hf : ClF N h x t v st) (hlp : x.get (N + 7) = some (.loop .ready none (needFn Tryd.f7) r [9] clAs clBd (N + 6))) (hm : AEv.Mod r [(4, .ptr (N + 2) 0)]) (hp : p.length ≤ 50000) (hst : st.length ≤ 60000) :
    (∃ st' v' x2, C (m + 3) (.yld (N + 7)) [.str p] x = .ret (.bool true) (x2.set (N + 7) (some (.loop .ready none (needFn Tryd.f7) r [9] clAs clBd (N + 6)))) ∧ ClF N h x2 t v' st' ∧ (∀ rest, fold st (p :: rest) = fold st' rest) ∧ st'.length ≤ st.length + 1) ∨
    (∃ x2, C (m + 3) (.yld (N + 7)) [.str p] x = .pan Wn x2 ∧ ClF N h x2 t v st ∧ ∀ rest, fold st (p :: rest) = none) := by
  have hy : C (m + 3) (.yld (N + 7)) [.str p] x = evRound Tryd.prog (C (m + 2)) (N + 7) [.str p] x := rfl
  have hfb := hf.setl (some (.loop .busy none (needFn Tryd.f7) r [9] clAs clBd (N + 6)))
  have hkb : (x.set (N + 7) (some (.loop .busy none (needFn Tryd.f7) r [9] clAs clBd (N + 6)))).get (N + 7) = some (.loop .busy none (needFn Tryd.f7) r [9] clAs clBd (N + 6)) := by rw [AHeap.get_set, if_pos rfl]
  have rnd := fun (e : AEx) (Γ : Env) (q : Rc) (x2 : AHeap) => @cl_round (C (m + 2)) (N + 7) (N + 2) (N + 6) _ p x x2 r e Γ q rfl hlp hm
  generalize hxb : x.set (N + 7) (some (.loop .busy none (needFn Tryd.f7) r [9] clAs clBd (N + 6))) = xb at hfb hkb rnd
  rw [hy]
  have same : ∀ Γ q, RunF Tryd.prog Tryd.f7 (some (N + 7)) (C (m + 2)) [1, 1, 1, 0, 1, 0, 1] ⟨[(5, .str p), (4, .ptr (N + 2) 0)], [], .none, xb⟩ .nrm ⟨Γ, [], q, xb⟩ → (∀ rest, fold st (p :: rest) = fold st rest) →
      (∃ st' v' x2, evRound Tryd.prog (C (m + 2)) (N + 7) [.str p] x = .ret (.bool true) (x2.set (N + 7) (some (.loop .ready none (needFn Tryd.f7) r [9] clAs clBd (N + 6)))) ∧ ClF N h x2 t v' st' ∧ (∀ rest, fold st (p :: rest) = fold st' rest) ∧ st'.length ≤ st.length + 1) := fun Γ q hr hfo =>
    ⟨st, v, xb, rnd _ _ _ _ hr hkb, hfb, hfo, by omega⟩
  have pan : ∀ Γ q, RunF Tryd.prog Tryd.f7 (some (N + 7)) (C (m + 2)) [1, 1, 1, 0, 1, 0, 1] ⟨[(5, .str p), (4, .ptr (N + 2) 0)], [], .none, xb⟩ (.pan Wn) ⟨Γ, [], q, xb⟩ → (∀ rest, fold st (p :: rest) = none) →
      (∃ x2, evRound Tryd.prog (C (m + 2)) (N + 7) [.str p] x = .pan Wn x2 ∧ ClF N h x2 t v st ∧ ∀ rest, fold st (p :: rest) = none) := fun Γ q hr hfo =>
    ⟨xb, rnd _ _ _ _ hr hkb, hfb, hfo⟩
  by_cases h0 : p = []
  · subst h0
    exact .inl (same _ _ (cl_e _ _ _ _) fun rest => by simp [fold])
  by_cases h1 : p = [46]
  · subst h1
    exact .inl (same _ _ (cl_d _ _ _ _) fun rest => by simp [fold])
  by_cases h2 : p = [46, 46]
  · subst h2
    rcases hfb.row with ⟨rfl, hst0⟩ | ⟨b, rs, rfl, hgb, hb1, hb2, hrs⟩
    · have hst0' : st = [] := by simpa using hst0
      subst hst0'
      exact .inr (pan _ _ (cl_u0 _ _ _ _ (cell_load hfb.lst) (must_p (m + 1) _)) fun rest => by simp [fold])
    · have hml : (st.map AV.str).length = st.length := by simp
      simp only [hml] at hfb pan ⊢
      by_cases hst0 : st = []
      · subst hst0
        exact .inr (pan _ _ (cl_u1 _ _ _ b 0 _ (cell_load hfb.lst) (must_p (m + 1) _)) fun rest => by simp [fold])
      · have hpos : 0 < st.length := by cases st <;> simp at hst0 ⊢
        have hmu : C (m + 2) (.fn 15) [.bool (ltI (Int.ofNat 0) (Int.ofNat st.length))] xb = .ret (.tup []) xb := by rw [lt_t hpos]; exact must_c (m + 1) _
        have hst' := cell_store (y := .slice b 0 (st.length - 1) (.opn 1)) rfl hfb.lst
        have hr := cl_u (C (m + 2)) (N + 7) (N + 2) b st.length (st.length - 1) xb _ (cell_load hfb.lst) hmu (sub1 hpos (by omega)) (slice_down hpos) hst'
        refine .inl ⟨st.dropLast, .slice b 0 (st.length - 1) (.opn 1), _, rnd _ _ _ _ hr (by rw [AHeap.get_set, if_neg (by omega)]; exact hkb), hfb.setv (Ext.refl _ _) ?_ ?_, fun rest => by simp [fold, hst0], by simp; omega⟩
        · refine .inr ⟨b, .str (st.getLast hst0) :: rs, by simp, ?_, hb1, hb2, by rw [List.all_cons, hrs]; rfl⟩
          rw [hgb]
          have : st.map AV.str = st.dropLast.map AV.str ++ [.str (st.getLast hst0)] := by
            conv => lhs; rw [← List.dropLast_concat_getLast hst0]
            simp
          rw [this]; simp
        · exact fun y hy => hf.seg y ((List.dropLast_sublist _).subset hy)
  · have hseg := seg_c m p xb hp
    cases hs : segL p with
    | false =>
      rw [hs] at hseg
      exact .inr (pan _ _ (cl_bad _ _ _ p xb (bb_f h0) (bb_f h1) (bb_f h2) hseg (must_p (m + 1) _)) fun rest => by simp [fold, h0, h1, h2, hs])
    | true =>
      rw [hs] at hseg
      obtain ⟨v', x1, ha, hr', hee⟩ := app27 (B := N + 8) (x := p) hfb.big (by simp; omega) (map_cell st) hfb.row
      have hlst : x1.get (N + 2) = some (.cells [v] 27 .own 0 0) := (hee.get _ (by omega)).trans hfb.lst
      have hk1 := (hee.get (N + 7) (by omega)).trans hkb
      rcases hr' with ⟨_, hbad⟩ | ⟨b, rs, rfl, hgb, hb1, hb2, hrs⟩
      · simp at hbad
      · have hr := cl_add (C (m + 2)) (N + 7) (N + 2) b _ v p xb x1 _ (bb_f h0) (bb_f h1) (bb_f h2) hseg (must_c (m + 1) _) (cell_load hfb.lst) ha (cell_store rfl hlst)
        refine .inl ⟨st ++ [p], _, _, rnd _ _ _ _ hr (by rw [AHeap.get_set, if_neg (by omega)]; exact hk1), hfb.setv hee (.inr ⟨b, rs, by simp, by simpa using hgb, hb1, hb2, hrs⟩) ?_, fun rest => by simp [fold, h0, h1, h2, hs], by simp⟩
        intro y hy
        rcases List.mem_append.1 hy with hy | hy
        · exact hf.seg y hy
        · simp at hy; subst hy; exact hs
end Go.Proofs.P05

namespace Go.Proofs.P05
open Go AEv Go.Proofs
set_option maxRecDepth 100000

theorem cell_under : isAggT Tryd.prog 9 = some false ∧ isAggT Tryd.prog 22 = some false := ⟨by kernel_rfl, by kernel_rfl⟩
/-- path.Clean's answer is read where it lies. -/
theorem cl_res (N : Nat) (x : List UInt8) (k : Nat) (r : Tr) (h : AHeap) (hm : AEv.Mod r [(2, .ptr N 0), (3, .ptr (N + 1) 0)]) (ha : h.get N = some (.cells [.str x] 9 .own 0 0)) (he : h.get (N + 1) = some (.cells [.int .i64 (Int.ofNat k)] 22 .own 0 0)) :
    resultsA Tryd.prog (needFn Tryd.f7) Tryd.f7 r h = some (.tup [.str x, .int .i64 (Int.ofNat k)]) := by
  refine resS_ok hm ?_
  have e1 : Tryd.f7.results.toList = [.cell 2 9, .cell 3 22] := by kernel_rfl
  have e2 : Nat.testBit (needFn Tryd.f7) 2 = true := by kernel_rfl
  have e3 : Nat.testBit (needFn Tryd.f7) 3 = true := by kernel_rfl
  have e4 : lk 2 [(2, AV.ptr N 0), (3, AV.ptr (N + 1) 0)] = some (.ptr N 0) := rfl
  have e5 : lk 3 [(2, AV.ptr N 0), (3, AV.ptr (N + 1) 0)] = some (.ptr (N + 1) 0) := rfl
  simp only [resS, e1, allA, oneS, e2, e3, cell_under.1, cell_under.2, e4, e5, cell_load ha, cell_load he]

theorem evD_no (call : CallT → List AV → AHeap → FRes) (N : Nat) (h : AHeap) : didDefer Tryd.prog Tryd.f13 none (evBody Tryd.prog call Tryd.f13 [.ptr N 0, .ptr (N + 1) 0] .none h) = some (none, h) := by
  obtain ⟨r, h1, h2⟩ := rec_no call N (N + 1) h _ (args_mod [.ptr N 0, .ptr (N + 1) 0])
  have hb : Tryd.f13.body = some (bodyOf Tryd.f13) := by kernel_rfl
  have hle : Nat.ble ([.ptr N 0, .ptr (N + 1) 0] : List AV).length Tryd.f13.ntmps = true := by kernel_rfl
  have hres : resultsA Tryd.prog (needFn Tryd.f13) Tryd.f13 r h = some (.tup []) := resS_ok h2 (by kernel_rfl)
  simp only [AEv.sub] at h1
  simp only [evBody, hb, hle, h1, didDefer, hres, settleA]
theorem evD_pan (call : CallT → List AV → AHeap → FRes) (N : Nat) (h : AHeap) {x : List UInt8} {k : Nat} (ha : h.get N = some (.cells [.str x] 9 .own 0 0)) (he : h.get (N + 1) = some (.cells [.int .i64 (Int.ofNat k)] 22 .own 0 0)) :
    ∃ h', didDefer Tryd.prog Tryd.f13 (some Wn) (evBody Tryd.prog call Tryd.f13 [.ptr N 0, .ptr (N + 1) 0] (.act Wn) h) = some (none, h') ∧ h'.get N = some (.cells [.str []] 9 .own 0 0) ∧ h'.get (N + 1) = some (.cells [.int .i64 (Int.ofNat 6)] 22 .own 0 0) ∧ Ext N h h' := by
  have s1 := cell_store (y := .str []) rfl ha
  have he' : (h.set N (some (.cells [.str []] 9 .own 0 0))).get (N + 1) = some (.cells [.int .i64 (Int.ofNat k)] 22 .own 0 0) := by rw [AHeap.get_set, if_neg (by omega)]; exact he
  have s2 := cell_store (y := .int .i64 (Int.ofNat 6)) rfl he'
  obtain ⟨r, h1, h2⟩ := rec_pan call N (N + 1) h _ _ s1 s2 _ (args_mod [.ptr N 0, .ptr (N + 1) 0])
  have hb : Tryd.f13.body = some (bodyOf Tryd.f13) := by kernel_rfl
  have hle : Nat.ble ([.ptr N 0, .ptr (N + 1) 0] : List AV).length Tryd.f13.ntmps = true := by kernel_rfl
  have hres : ∀ h, resultsA Tryd.prog (needFn Tryd.f13) Tryd.f13 r h = some (.tup []) := fun h => resS_ok h2 (by kernel_rfl)
  simp only [AEv.sub] at h1
  refine ⟨(h.set N (some (.cells [.str []] 9 .own 0 0))).set (N + 1) (some (.cells [.int .i64 (Int.ofNat 6)] 22 .own 0 0)), ?_, ?_, ?_, (Ext.set (Nat.le_refl _) _).trans (Nat.le_refl _) (Ext.set (Nat.le_succ _) _)⟩
  · have h1' : evCode Tryd.prog (needFn Tryd.f13) none call (bodyOf Tryd.f13) (initRegs 0 [.ptr N 0, .ptr (N + 1) 0] .leaf) [] (.act Wn) h = _ := h1
    simp only [evBody, hb, hle, h1', didDefer, hres, settleA]
  · rw [AHeap.get_set, if_neg (by omega), AHeap.get_set, if_pos rfl]
  · rw [AHeap.get_set, if_pos rfl]

/-- path.Clean leaves, with an answer. -/
theorem cl_leave (call : CallT → List AV → AHeap → FRes) (N k : Nat) (x : List UInt8) (r : Tr) (q : Rc) (h : AHeap) (hm : AEv.Mod r [(2, .ptr N 0), (3, .ptr (N + 1) 0)]) (hd : h.get (N + 6) = some (.defrd (some []))) (ha : h.get N = some (.cells [.str x] 9 .own 0 0)) (he : h.get (N + 1) = some (.cells [.int .i64 (Int.ofNat k)] 22 .own 0 0)) :
    leaveA Tryd.prog call Tryd.f7 (.ok .ret r [.collected (N + 6), .call 13 [.ptr N 0, .ptr (N + 1) 0]] q h) = .ret (.tup [.str x, .int .i64 (Int.ofNat k)]) (h.set (N + 6) (some (.defrd none))) := by
  have hr := cl_res N x k r (h.set (N + 6) (some (.defrd none))) hm (by rw [AHeap.get_set, if_neg (by omega)]; exact ha) (by rw [AHeap.get_set, if_neg (by omega)]; exact he)
  have hdd := evD_no call N (h.set (N + 6) (some (.defrd none)))
  simp only [leaveA, evDefers, hd, List.nil_append, Tryd.func13, rcOf, hdd, hr]
/-- .. with a panic that is recovered. -/
theorem cl_leavep (call : CallT → List AV → AHeap → FRes) (N k : Nat) (x : List UInt8) (r : Tr) (q : Rc) (h : AHeap) (hm : AEv.Mod r [(2, .ptr N 0), (3, .ptr (N + 1) 0)]) (hd : h.get (N + 6) = some (.defrd (some []))) (ha : h.get N = some (.cells [.str x] 9 .own 0 0)) (he : h.get (N + 1) = some (.cells [.int .i64 (Int.ofNat k)] 22 .own 0 0)) :
    ∃ h', leaveA Tryd.prog call Tryd.f7 (.ok (.pan Wn) r [.collected (N + 6), .call 13 [.ptr N 0, .ptr (N + 1) 0]] q h) = .ret (.tup [.str [], .int .i64 (Int.ofNat 6)]) h' ∧ Ext N h h' := by
  obtain ⟨h', d1, d2, d3, d4⟩ := evD_pan call N (h.set (N + 6) (some (.defrd none))) (x := x) (k := k) (by rw [AHeap.get_set, if_neg (by omega)]; exact ha) (by rw [AHeap.get_set, if_neg (by omega)]; exact he)
  have hr := cl_res N [] 6 r h' hm d2 d3
  refine ⟨h', ?_, (Ext.set (by omega) _).trans (Nat.le_refl _) d4⟩
  simp only [leaveA, evDefers, hd, List.nil_append, Tryd.func13, rcOf, d1, hr]

/-- path.Clean. -/
theorem clean_c (m : Nat) (s : List UInt8) (h : AHeap) (hs : s.length ≤ 50000) :
    ∃ h', C (m + 8) (.fn 7) [.str s] h = .ret (match cleanL s with | some p => .tup [.str p, .int .i64 (Int.ofNat 0)] | none => .tup [.str [], .int .i64 (Int.ofNat 6)]) h' ∧ Ext h.n h h' := by
  have hcount := pcs_count s []
  let N := h.n
  let h1 := (h.push (.cells [.str []] 9 .own 0 0)).push (.cells [.int .i64 (Int.ofNat 0)] 22 .own 0 0)
  let h2 := h1.push (.cells [.nilS] 27 .own 0 0)
  let h3 := itH s h2
  have e3 : Ext h.n h h3 := ((((((Ext.push (Nat.le_refl _) _).trans (Nat.le_refl _) (Ext.push (by simp) _)).trans (Nat.le_refl _) (Ext.push (by simp [h1]; omega) _)).trans (Nat.le_refl _) (Ext.push (by simp [h2, h1]; omega) _)).trans (Nat.le_refl _) (Ext.push (by simp [h2, h1]; omega) _)).trans (Nat.le_refl _) (Ext.push (by simp [h2, h1]; omega) _))
  have w : WF Tryd.prog Tryd.f7 none (C (m + 7)) [] (fun e r d q h' => ∃ h'', leaveA Tryd.prog (C (m + 7)) Tryd.f7 (.ok e r d q h') = .ret (match cleanL s with | some p => .tup [.str p, .int .i64 (Int.ofNat 0)] | none => .tup [.str [], .int .i64 (Int.ofNat 6)]) h'' ∧ Ext h.n h h'') (initRegs 0 [.str s] .leaf) [] .none h := by
    refine WF.seq (p := []) (by kernel_rfl) (W.of (cl_0 (C (m + 7)) s h) (args_mod [.str s]) fun r1 m1 => .inl ⟨rfl, ?_⟩)
    refine WF.seq (p := [1]) (by kernel_rfl) (W.of (cl_1 (C (m + 7)) s h1 N (N + 1)) m1 fun r2 m2 => .inl ⟨rfl, ?_⟩)
    refine WF.seq (p := [1, 1]) (by kernel_rfl) (W.of (cl_2 (C (m + 7)) s h1 [.call 13 [.ptr N 0, .ptr (N + 1) 0]] N (N + 1)) m2 fun r3 m3 => .inl ⟨rfl, ?_⟩)
    refine WF.seq (p := [1, 1, 1]) (by kernel_rfl) ?_
    refine WF.seq (p := [1, 1, 1, 0]) (by kernel_rfl) (W.of (cl_3 (C (m + 7)) s _ h2 h3 [.call 13 [.ptr N 0, .ptr (N + 1) 0]] N (N + 1) (N + 2) (split_c (m + 5) s h2)) m3 fun r4 m4 => .inl ⟨rfl, ?_⟩)
    refine WF.block (p := [1, 1, 1, 0, 1]) (id := 0) (by kernel_rfl) ?_
    refine WF.range (p := [1, 1, 1, 0, 1, 0]) (t := 8) (ps := [9]) (by kernel_rfl) (by kernel_rfl) (hf := rfl) (hm := m4) ?_
    let x0 := (h3.push (.defrd (some []))).push (.loop .ready none (needFn Tryd.f7) r4 [9] clAs clBd (N + 6))
    have i0 : ClF N h x0 s .nilS [] := by
      refine ⟨?_, .inl ⟨rfl, rfl⟩, fun y hy => by simp at hy, ?_, ?_, ?_, ?_, ?_, ?_, ?_, ?_⟩
      · simp only [x0, h3, itH, h2, h1, N, AHeap.get_push, AHeap.n_push]; grind
      · simp only [x0, h3, itH, h2, h1, N, AHeap.get_push, AHeap.n_push]; grind
      · simp only [x0, h3, itH, h2, h1, N, AHeap.get_push, AHeap.n_push]; grind
      · simp only [x0, h3, itH, h2, h1, N, AHeap.get_push, AHeap.n_push]; grind
      · simp only [x0, h3, itH, h2, h1, N, AHeap.get_push, AHeap.n_push]; grind
      · simp only [x0, h3, itH, h2, h1, N, AHeap.get_push, AHeap.n_push]; grind
      · simp only [x0, h3, itH, h2, h1, N, AHeap.get_push, AHeap.n_push]; grind
      · exact e3.trans (Nat.le_refl _) ((Ext.push (by simp [h3, itH, h2, h1]; omega) _).trans (Nat.le_refl _) (Ext.push (by simp [h3, itH, h2, h1]; omega) _))
      · simp [x0, h3, itH, h2, h1, N]
    have l0 : x0.get (N + 7) = some (.loop .ready none (needFn Tryd.f7) r4 [9] clAs clBd (N + 6)) := by
      simp only [x0, h3, itH, h2, h1, N, AHeap.get_push, AHeap.n_push]; grind
    have mc : AEv.Mod r4 [(4, .ptr (N + 2) 0)] := m4.sub ⟨rfl, trivial⟩
    have ma : AEv.Mod r4 [(2, .ptr N 0), (3, .ptr (N + 1) 0)] := m4.sub ⟨rfl, rfl, trivial⟩
    let rdy : Option AObj := some (.loop .ready none (needFn Tryd.f7) r4 [9] clAs clBd (N + 6))
    have sp := sp_c (m + 6) (N + 7) (N + 3)
      (fun s' x => ∃ v st, ClF N h x s' v st ∧ x.get (N + 7) = rdy ∧ fold [] (pcs [] s) = fold st (pcs [] s') ∧ st.length + (pcs [] s').length ≤ (pcs [] s).length ∧ s'.length ≤ 50000)
      (fun x => ∃ t v st, ClF N h x t v st ∧ x.get (N + 7) = rdy ∧ fold [] (pcs [] s) = some st)
      (fun w x => w = Wn ∧ fold [] (pcs [] s) = none ∧ ∃ t v st, ClF N h x t v st)
      (fun s h => index_c (m + 2) s h) (fun s' x hi => by
        obtain ⟨v, st, hf, _⟩ := hi
        exact ⟨cell_load hf.txt, cell_load hf.sep, cell_load hf.num⟩)
      (fun s' p t x hi hs' hp => by
        obtain ⟨v, st, hf, hl, hfo, hct, hlen⟩ := hi
        have hlt : p.length ≤ 50000 ∧ t.length ≤ 50000 := by
          rw [hs'] at hlen; simp at hlen; omega
        rcases cl_rnd (m + 3) hf hl mc hlt.1 (by omega) with ⟨st', v', x2, c1, c2, c3, c4⟩ | ⟨x2, c1, c2, c3⟩
        · have c2' := c2.setl rdy
          refine .inl ⟨_, _, c1, cell_load c2'.txt, cell_load c2'.sep, cell_store rfl c2'.txt, v', st', c2'.sett t, ?_, ?_, ?_, hlt.2⟩
          · rw [AHeap.get_set, if_neg (by omega), AHeap.get_set, if_pos rfl]
          · rw [hfo, hp, c3]
          · rw [hp] at hct; simp at hct; omega
        · exact .inr (.inr ⟨Wn, x2, c1, rfl, by rw [hfo, hp, c3], s', v, st, c2⟩))
      (fun s' x hi hp => by
        obtain ⟨v, st, hf, hl, hfo, hct, hlen⟩ := hi
        rcases cl_rnd (m + 3) hf hl mc hlen (by omega) with ⟨st', v', x2, c1, c2, c3, c4⟩ | ⟨x2, c1, c2, c3⟩
        · refine .inl ⟨_, _, c1, s', v', st', c2.setl rdy, by rw [AHeap.get_set, if_pos rfl], ?_⟩
          rw [hfo, hp, c3]; rfl
        · exact .inr ⟨Wn, x2, c1, rfl, by rw [hfo, hp, c3], s', v, st, c2⟩) s x0 hs ⟨.nilS, [], i0, l0, rfl, by simp, hs⟩
    rcases sp with ⟨x, z1, t, v, st, z2, z3, z4⟩ | ⟨_, x, z1, rfl, z3, t, v, st, z2⟩
    · have hend : rangeEnd (N + 7) r4 [.collected (N + 6), .call 13 [.ptr N 0, .ptr (N + 1) 0]] .none (.ret (.tup []) x) = .ok .nrm r4 [.collected (N + 6), .call 13 [.ptr N 0, .ptr (N + 1) 0]] .none (x.set (N + 7) (some (.loop .exhausted none (needFn Tryd.f7) r4 [9] clAs clBd (N + 6)))) := by
        simp only [rangeEnd, z3, rdy]
      refine ⟨.nrm, _, (congrArg (rangeEnd (N + 7) r4 [.collected (N + 6), .call 13 [.ptr N 0, .ptr (N + 1) 0]] .none) z1).trans hend, .inr ⟨by simp, .inl ⟨rfl, ?_⟩⟩⟩
      have z2' := z2.setl (some (.loop .exhausted none (needFn Tryd.f7) r4 [9] clAs clBd (N + 6)))
      generalize x.set (N + 7) (some (.loop .exhausted none (needFn Tryd.f7) r4 [9] clAs clBd (N + 6))) = y at z2'
      have m4' : AEv.Mod r4 [(2, .ptr N 0), (3, .ptr (N + 1) 0), (4, .ptr (N + 2) 0)] := m4.sub ⟨rfl, rfl, rfl, trivial⟩
      have no : cleanL s = none → (∃ q, RunF Tryd.prog Tryd.f7 none (C (m + 7)) [1, 1, 1, 1, 0] ⟨[(2, .ptr N 0), (3, .ptr (N + 1) 0), (4, .ptr (N + 2) 0)], [.collected (N + 6), .call 13 [.ptr N 0, .ptr (N + 1) 0]], .none, y⟩ (.pan Wn) ⟨[(2, .ptr N 0), (3, .ptr (N + 1) 0)], [.collected (N + 6), .call 13 [.ptr N 0, .ptr (N + 1) 0]], q, y⟩) →
          WF Tryd.prog Tryd.f7 none (C (m + 7)) [1, 1, 1, 1] (fun e r d q h' => ∃ h'', leaveA Tryd.prog (C (m + 7)) Tryd.f7 (.ok e r d q h') = .ret (match cleanL s with | some p => .tup [.str p, .int .i64 (Int.ofNat 0)] | none => .tup [.str [], .int .i64 (Int.ofNat 6)]) h'' ∧ Ext h.n h h'') r4 [.collected (N + 6), .call 13 [.ptr N 0, .ptr (N + 1) 0]] .none y := by
        intro hcl hr
        obtain ⟨q, hr⟩ := hr
        refine WF.seq (p := [1, 1, 1, 1]) (by kernel_rfl) (W.of hr m4' fun r5 m5 => .inr ⟨by simp, ?_⟩)
        obtain ⟨h', l1, l2⟩ := cl_leavep (C (m + 7)) N 0 [] r5 q y m5 z2'.dfr z2'.ans z2'.err
        rw [hcl]; exact ⟨h', l1, z2'.ext.trans (Nat.le_refl _) l2⟩
      rcases z2'.row with ⟨rfl, hst0⟩ | ⟨b, rs, rfl, hgb, hb1, hb2, hrs⟩
      · have hst0' : st = [] := by simpa using hst0
        subst hst0'
        exact no (by simp only [cleanL, z4]) ⟨_, cl_m0 (C (m + 7)) N (N + 1) (N + 2) _ y (cell_load z2'.lst) (must_p (m + 6) y)⟩
      · have hml : (st.map AV.str).length = st.length := by simp
        rw [hml] at z2'
        cases st with
        | nil => exact no (by simp only [cleanL, z4]) ⟨_, cl_m1_2 (C (m + 7)) N (N + 1) (N + 2) b 0 _ y (cell_load z2'.lst) (lt_f (by omega)) (must_p (m + 6) y)⟩
        | cons x l =>
          by_cases h8 : l.length < 8
          · have hcl : cleanL s = some (join1 x l) := by simp only [cleanL, z4, if_pos h8]
            have hmu : C (m + 7) (.fn 15) [.bool (leI (Int.ofNat (x :: l).length) (Int.ofNat 8))] y = .ret (.tup []) y := by
              rw [le_t (by simp; omega)]; exact must_c (m + 6) y
            refine WF.seq (p := [1, 1, 1, 1]) (by kernel_rfl) (W.of (cl_m_1 (C (m + 7)) N (N + 1) (N + 2) b (x :: l).length _ y (cell_load z2'.lst) (lt_t (by simp)) hmu) m4' fun r5 m5 => .inl ⟨rfl, ?_⟩)
            obtain ⟨h', j1, j2⟩ := join_c (m + 3) x l b rs .opn 0 0 9 y hgb hb2 (by simp; omega) (fun y hy => by have := seg_len (z2'.seg y hy); omega)
            have hbig := z2'.big
            have ga : h'.get N = some (.cells [.str []] 9 .own 0 0) := (j2.get N (by omega)).trans z2'.ans
            have ge : h'.get (N + 1) = some (.cells [.int .i64 (Int.ofNat 0)] 22 .own 0 0) := (j2.get _ (by omega)).trans z2'.err
            have gd : h'.get (N + 6) = some (.defrd (some [])) := (j2.get _ (by omega)).trans z2'.dfr
            have ge' : (h'.set N (some (.cells [.str (join1 x l)] 9 .own 0 0))).get (N + 1) = some (.cells [.int .i64 (Int.ofNat 0)] 22 .own 0 0) := by rw [AHeap.get_set, if_neg (by omega)]; exact ge
            refine W.of (cl_j (C (m + 7)) N (N + 1) (N + 2) b (x :: l).length _ y (join1 x l) h' _ _ (cell_load z2'.lst) j1 (cell_store rfl ga) (cell_store rfl ge')) m5 fun r6 m6 => ?_
            rw [hcl]
            refine ⟨_, cl_leave (C (m + 7)) N 0 (join1 x l) r6 _ _ m6 ?_ ?_ ?_, ?_⟩
            · rw [AHeap.get_set, if_neg (by omega), AHeap.get_set, if_neg (by omega)]; exact gd
            · rw [AHeap.get_set, if_neg (by omega), AHeap.get_set, if_pos rfl]
            · rw [AHeap.get_set, if_pos rfl]
            · exact (((z2'.ext.trans (by omega) j2).trans (Nat.le_refl _) (Ext.set (Nat.le_refl _) _)).trans (Nat.le_refl _) (Ext.set (by omega) _)).trans (Nat.le_refl _) (Ext.set (by omega) _)
          · have hcl : cleanL s = none := by simp only [cleanL, z4, if_neg h8]
            refine no hcl ⟨_, cl_m1_1 (C (m + 7)) N (N + 1) (N + 2) b (x :: l).length _ y (cell_load z2'.lst) (lt_t (by simp)) ?_⟩
            rw [le_f (by simp; omega)]; exact must_p (m + 6) y
    · have hend : rangeEnd (N + 7) r4 [.collected (N + 6), .call 13 [.ptr N 0, .ptr (N + 1) 0]] .none (.pan Wn x) = .ok (.pan Wn) r4 [.collected (N + 6), .call 13 [.ptr N 0, .ptr (N + 1) 0]] .none x := rfl
      refine ⟨.pan Wn, _, (congrArg (rangeEnd (N + 7) r4 [.collected (N + 6), .call 13 [.ptr N 0, .ptr (N + 1) 0]] .none) z1).trans hend, .inr ⟨by simp, .inr ⟨by simp, ?_⟩⟩⟩
      have hcl : cleanL s = none := by simp only [cleanL, z3]
      obtain ⟨h', l1, l2⟩ := cl_leavep (C (m + 7)) N 0 [] r4 .none x ma z2.dfr z2.ans z2.err
      rw [hcl]
      exact ⟨h', l1, z2.ext.trans (Nat.le_refl _) l2⟩
  obtain ⟨e, r, d, q, h', w1, h'', w2, w3⟩ := w
  exact ⟨h'', fn_W (intr := tabIntr Wk) (n := m + 7) (args := [.str s]) Tryd.func7 (by kernel_rfl) rfl (by kernel_rfl) ⟨e, r, d, q, h', w1, w2⟩, w3⟩
end Go.Proofs.P05

namespace Go.Proofs.P05
open Go AEv Go.Proofs
set_option maxRecDepth 100000

/-! ### The plain law: what is cleaned -/
def tl : List (List UInt8) → List UInt8
  | [] => []
  | z :: l => 47 :: (z ++ tl l)
theorem join1_tl : ∀ (l : List (List UInt8)) (a : List UInt8), join1 a l = a ++ tl l
  | [], a => by simp [join1, tl]
  | z :: l, a => by rw [join1, join1_tl l]; simp [tl]
theorem pcs_join : ∀ (s cur x : List UInt8) (l : List (List UInt8)), pcs cur s = x :: l → join1 x l = cur ++ s
  | [], cur, x, l, h => by simp [pcs] at h; obtain ⟨rfl, rfl⟩ := h; simp [join1]
  | c :: s, cur, x, l, h => by
    simp only [pcs] at h
    split at h
    · rename_i hc
      subst hc
      injection h with h1 h2
      subst h1
      obtain ⟨y, m, hy⟩ : ∃ y m, pcs [] s = y :: m := by
        cases hp : pcs [] s with
        | nil => exact absurd hp (pcs_ne s [])
        | cons y m => exact ⟨y, m, rfl⟩
      rw [← h2, hy]
      have := pcs_join s [] y m hy
      rw [join1_tl] at this ⊢
      simp only [tl]
      rw [this]; simp
    · have := pcs_join s (cur ++ [c]) x l h
      rw [this]; simp
theorem pcs_plain : ∀ (y cur : List UInt8), 47 ∉ y → pcs cur y = [cur ++ y]
  | [], cur, _ => by simp [pcs]
  | c :: y, cur, h => by
    simp only [List.mem_cons, not_or] at h
    simp only [pcs, if_neg (Ne.symm h.1)]
    rw [pcs_plain y _ h.2]; simp
theorem pcs_slashed : ∀ (y cur r : List UInt8), 47 ∉ y → pcs cur (y ++ 47 :: r) = (cur ++ y) :: pcs [] r
  | [], cur, r, _ => by simp [pcs]
  | c :: y, cur, r, h => by
    simp only [List.mem_cons, not_or] at h
    simp only [List.cons_append, pcs, if_neg (Ne.symm h.1)]
    rw [pcs_slashed y _ r h.2]; simp
theorem pcs_tl : ∀ (l : List (List UInt8)) (y : List UInt8), (∀ z ∈ y :: l, 47 ∉ z) → pcs [] (y ++ tl l) = y :: l
  | [], y, h => by
    have := pcs_plain y [] (h y (by simp))
    simpa [tl] using this
  | z :: l, y, h => by
    rw [tl, pcs_slashed y [] _ (h y (by simp)), pcs_tl l z (fun w hw => h w (by simp at hw ⊢; exact .inr hw))]
    simp
theorem seg_no47 {z : List UInt8} (h : segL z = true) : 47 ∉ z := by
  intro hm
  simp only [segL, Bool.and_eq_true, List.all_eq_true] at h
  have := h.1.1 47 hm
  simp [oddB] at this
theorem seg_dots {z : List UInt8} (h : segL z = true) : ¬ (z = [] ∨ z = [46]) ∧ z ≠ [46, 46] := by
  refine ⟨?_, ?_⟩
  · rintro (rfl | rfl) <;> simp [segL, oddB] at h
  · rintro rfl; simp [segL, oddB] at h
theorem fold_all : ∀ (l st : List (List UInt8)), l.all segL = true → fold st l = some (st ++ l)
  | [], st, _ => by simp [fold]
  | x :: l, st, h => by
    simp only [List.all_cons, Bool.and_eq_true] at h
    obtain ⟨h1, h2⟩ := seg_dots h.1
    simp only [fold, if_neg h1, if_neg h2, if_pos h.1]
    rw [fold_all l _ h.2]; simp
/-- What is a path is cleaned to itself. -/
theorem may_clean {p : List UInt8} (h : mayL p = true) : cleanL p = some p := by
  simp only [mayL, Bool.and_eq_true, decide_eq_true_eq] at h
  have hf := fold_all (pcs [] p) [] h.1
  rw [List.nil_append] at hf
  cases hp : pcs [] p with
  | nil => exact absurd hp (pcs_ne p [])
  | cons x l =>
    rw [hp] at hf h
    have h8 : l.length < 8 := by have := h.2; simp at this; omega
    simp only [cleanL, hp, hf, if_pos h8]
    rw [pcs_join p [] x l hp]; simp
/-- What was cleaned is a path. -/
theorem clean_may {p x : List UInt8} (h : cleanL p = some x) : mayL x = true := by
  unfold cleanL at h
  split at h
  · rename_i y l hf
    split at h
    · rename_i h8
      cases h
      have hs := fold_seg _ _ _ hf (fun y hy => by cases hy)
      have hp : pcs [] (join1 y l) = y :: l := by
        rw [join1_tl]
        exact pcs_tl l y (fun z hz => seg_no47 (hs z hz))
      simp only [mayL, hp, Bool.and_eq_true, decide_eq_true_eq, List.all_eq_true]
      exact ⟨hs, by simp; omega⟩
    · cases h
  · cases h
theorem clean_len {p x : List UInt8} (h : cleanL p = some x) : x.length ≤ 50000 := by
  unfold cleanL at h
  split at h
  · rename_i y l hf
    split at h
    · rename_i h8
      cases h
      have hs := fold_seg _ _ _ hf (fun y hy => by cases hy)
      rw [join1_len]
      have h1 := seg_len (hs y (by simp))
      have h2 := sumLen_le l 16 (fun z hz => seg_len (hs z (by simp [hz])))
      omega
    · cases h
  · cases h
theorem may_iff {p x : List UInt8} (h : cleanL p = some x) : mayL p = beqBytes x p := by
  rw [beqB]
  cases hm : mayL p with
  | true =>
    have := may_clean hm
    rw [h] at this
    injection this with e
    simp [e]
  | false =>
    have : x ≠ p := by rintro rfl; rw [clean_may h] at hm; cases hm
    simp [this]
theorem clean_no {p : List UInt8} (h : cleanL p = none) : mayL p = false := by
  cases hm : mayL p with
  | false => rfl
  | true => rw [may_clean hm] at h; cases h
end Go.Proofs.P05

namespace Go.Proofs.P05
open Go AEv Go.Proofs
set_option maxRecDepth 100000
theorem is_1 (call : CallT → List AV → AHeap → FRes) (s : List UInt8) (w : List UInt8) (x : List UInt8) (k : Nat) (h : AHeap) (h1 : AHeap) 
    (H1 : call (CallT.fn 7) [AV.str s] h = FRes.ret (AV.tup [AV.str x, AV.int IntKind.i64 (Int.ofNat k)]) h1)
    (H2 : beqBytes x w = true) :
    RunF Tryd.prog Tryd.f12 none call [] (SSt.mk [(0, AV.str s), (1, AV.str w)] [] Rc.none h) (AEx.ret)
      (SSt.mk [(4, AV.bool (eqI (Int.ofNat k) (Int.ofNat 0)))] [] Rc.none h1) :=
  sxF_run [4] (hs := [Hint.c (AV.tup [AV.str x, AV.int IntKind.i64 (Int.ofNat k)]) h1, Hint.b true, Hint.b true, Hint.b true]) (by kernel_rfl) <| .cons H1 <| .cons H2 <| .cons H2 <| .cons H2 <| .nil
theorem is_2 (call : CallT → List AV → AHeap → FRes) (s : List UInt8) (w : List UInt8) (x : List UInt8) (k : Nat) (h : AHeap) (h1 : AHeap) 
    (H1 : call (CallT.fn 7) [AV.str s] h = FRes.ret (AV.tup [AV.str x, AV.int IntKind.i64 (Int.ofNat k)]) h1)
    (H2 : beqBytes x w = false) :
    RunF Tryd.prog Tryd.f12 none call [] (SSt.mk [(0, AV.str s), (1, AV.str w)] [] Rc.none h) (AEx.ret)
      (SSt.mk [(4, AV.bool false)] [] Rc.none h1) :=
  sxF_run [4] (hs := [Hint.c (AV.tup [AV.str x, AV.int IntKind.i64 (Int.ofNat k)]) h1, Hint.b false, Hint.b false, Hint.b false]) (by kernel_rfl) <| .cons H1 <| .cons H2 <| .cons H2 <| .cons H2 <| .nil
theorem law1_1 (call : CallT → List AV → AHeap → FRes) (s : List UInt8) (p : List UInt8) (x : List UInt8) (k : Nat) (m : Nat) (b : Bool) (h : AHeap) (h1 : AHeap) (h2 : AHeap) (h3 : AHeap) (h4 : AHeap) (h5 : AHeap) 
    (H1 : foldA minA (AV.int IntKind.i64 (Int.ofNat (List.length s))) [AV.int IntKind.i64 (Int.ofNat 1000)] = some (AV.int IntKind.i64 (Int.ofNat m)))
    (H2 : sliceA Tryd.prog h 9 (AV.str s) none (some (AV.int IntKind.i64 (Int.ofNat m))) none = some (AV.str p))
    (H3 : call (CallT.fn 7) [AV.str p] h = FRes.ret (AV.tup [AV.str x, AV.int IntKind.i64 (Int.ofNat k)]) h1)
    (H4 : call (CallT.fn 8) [AV.str p] h1 = FRes.ret (AV.tup [AV.str x, AV.int IntKind.i64 (Int.ofNat k)]) h2)
    (H5 : beqBytes x x = true)
    (H6 : eqI (Int.ofNat k) (Int.ofNat k) = true)
    (H7 : call (CallT.fn 9) [AV.str p] h2 = FRes.ret (AV.bool b) h3)
    (H8 : call (CallT.fn 10) [AV.str p] h3 = FRes.ret (AV.bool b) h4)
    (H9 : binA Tryd.prog h4 BinOp.eql 4 (Operand.tmp 32) (Operand.tmp 34) (AV.bool b) (AV.bool b) = some (AV.bool true))
    (H10 : call (CallT.fn 11) [] h4 = FRes.ret (AV.bool true) h5) :
    RunF Tryd.prog Tryd.f3 none call [] (SSt.mk [(0, AV.str s)] [] Rc.none h) (AEx.ret)
      (SSt.mk [(2, AV.bool true)] [] Rc.none h5) :=
  sxF_run [2] (hs := [Hint.v (AV.int IntKind.i64 (Int.ofNat m)), Hint.v (AV.str p), Hint.c (AV.tup [AV.str x, AV.int IntKind.i64 (Int.ofNat k)]) h1, Hint.c (AV.tup [AV.str x, AV.int IntKind.i64 (Int.ofNat k)]) h2, Hint.b true, Hint.b true, Hint.b true, Hint.b true, Hint.b true, Hint.b true, Hint.c (AV.bool b) h3, Hint.b true, Hint.b true, Hint.c (AV.bool b) h4, Hint.b true, Hint.v (AV.bool true), Hint.b true, Hint.b true, Hint.c (AV.bool true) h5, Hint.b true]) (by kernel_rfl) <| .cons H1 <| .cons H2 <| .cons H3 <| .cons H4 <| .cons H5 <| .cons H5 <| .cons H5 <| .cons H5 <| .cons H6 <| .cons H6 <| .cons H7 <| .cons H6 <| .cons H6 <| .cons H8 <| .cons H6 <| .cons H9 <| .cons H6 <| .cons (by kernel_rfl : true = true) <| .cons H10 <| .cons (by kernel_rfl : true = true) <| .nil
theorem law1_2 (call : CallT → List AV → AHeap → FRes) (s : List UInt8) (p : List UInt8) (x : List UInt8) (k : Nat) (m : Nat) (b : Bool) (h : AHeap) (h1 : AHeap) (h2 : AHeap) (h3 : AHeap) (h4 : AHeap) (h5 : AHeap) 
    (H1 : foldA minA (AV.int IntKind.i64 (Int.ofNat (List.length s))) [AV.int IntKind.i64 (Int.ofNat 1000)] = some (AV.int IntKind.i64 (Int.ofNat m)))
    (H2 : sliceA Tryd.prog h 9 (AV.str s) none (some (AV.int IntKind.i64 (Int.ofNat m))) none = some (AV.str p))
    (H3 : call (CallT.fn 7) [AV.str p] h = FRes.ret (AV.tup [AV.str x, AV.int IntKind.i64 (Int.ofNat k)]) h1)
    (H4 : call (CallT.fn 8) [AV.str p] h1 = FRes.ret (AV.tup [AV.str x, AV.int IntKind.i64 (Int.ofNat k)]) h2)
    (H5 : beqBytes x x = true)
    (H6 : eqI (Int.ofNat k) (Int.ofNat k) = false) :
    RunF Tryd.prog Tryd.f3 none call [] (SSt.mk [(0, AV.str s)] [] Rc.none h) (AEx.ret)
      (SSt.mk [(2, AV.bool false)] [] Rc.none h2) :=
  sxF_run [2] (hs := [Hint.v (AV.int IntKind.i64 (Int.ofNat m)), Hint.v (AV.str p), Hint.c (AV.tup [AV.str x, AV.int IntKind.i64 (Int.ofNat k)]) h1, Hint.c (AV.tup [AV.str x, AV.int IntKind.i64 (Int.ofNat k)]) h2, Hint.b true, Hint.b true, Hint.b true, Hint.b true, Hint.b false, Hint.b false, Hint.b false, Hint.b false, Hint.b false, Hint.b false, Hint.b false, Hint.b false]) (by kernel_rfl) <| .cons H1 <| .cons H2 <| .cons H3 <| .cons H4 <| .cons H5 <| .cons H5 <| .cons H5 <| .cons H5 <| .cons H6 <| .cons H6 <| .cons H6 <| .cons H6 <| .cons H6 <| .cons H6 <| .cons (by kernel_rfl : false = false) <| .cons (by kernel_rfl : false = false) <| .nil
theorem law1_3 (call : CallT → List AV → AHeap → FRes) (s : List UInt8) (p : List UInt8) (x : List UInt8) (k : Nat) (m : Nat) (b : Bool) (h : AHeap) (h1 : AHeap) (h2 : AHeap) (h3 : AHeap) (h4 : AHeap) (h5 : AHeap) 
    (H1 : foldA minA (AV.int IntKind.i64 (Int.ofNat (List.length s))) [AV.int IntKind.i64 (Int.ofNat 1000)] = some (AV.int IntKind.i64 (Int.ofNat m)))
    (H2 : sliceA Tryd.prog h 9 (AV.str s) none (some (AV.int IntKind.i64 (Int.ofNat m))) none = some (AV.str p))
    (H3 : call (CallT.fn 7) [AV.str p] h = FRes.ret (AV.tup [AV.str x, AV.int IntKind.i64 (Int.ofNat k)]) h1)
    (H4 : call (CallT.fn 8) [AV.str p] h1 = FRes.ret (AV.tup [AV.str x, AV.int IntKind.i64 (Int.ofNat k)]) h2)
    (H5 : beqBytes x x = false) :
    RunF Tryd.prog Tryd.f3 none call [] (SSt.mk [(0, AV.str s)] [] Rc.none h) (AEx.ret)
      (SSt.mk [(2, AV.bool false)] [] Rc.none h2) :=
  sxF_run [2] (hs := [Hint.v (AV.int IntKind.i64 (Int.ofNat m)), Hint.v (AV.str p), Hint.c (AV.tup [AV.str x, AV.int IntKind.i64 (Int.ofNat k)]) h1, Hint.c (AV.tup [AV.str x, AV.int IntKind.i64 (Int.ofNat k)]) h2, Hint.b false, Hint.b false, Hint.b false, Hint.b false, Hint.b false, Hint.b false, Hint.b false, Hint.b false, Hint.b false, Hint.b false, Hint.b false, Hint.b false]) (by kernel_rfl) <| .cons H1 <| .cons H2 <| .cons H3 <| .cons H4 <| .cons H5 <| .cons H5 <| .cons H5 <| .cons H5 <| .cons (by kernel_rfl : false = false) <| .cons (by kernel_rfl : false = false) <| .cons (by kernel_rfl : false = false) <| .cons (by kernel_rfl : false = false) <| .cons (by kernel_rfl : false = false) <| .cons (by kernel_rfl : false = false) <| .cons (by kernel_rfl : false = false) <| .cons (by kernel_rfl : false = false) <| .nil
theorem law3_1 (call : CallT → List AV → AHeap → FRes) (s : List UInt8) (p : List UInt8) (x : List UInt8) (k : Nat) (m : Nat) (h : AHeap) (h1 : AHeap) (b_1 : Bool) (g_1 : AHeap) (b_2 : Bool) (g_2 : AHeap) 
    (H1 : foldA minA (AV.int IntKind.i64 (Int.ofNat (List.length s))) [AV.int IntKind.i64 (Int.ofNat 1000)] = some (AV.int IntKind.i64 (Int.ofNat m)))
    (H2 : sliceA Tryd.prog h 9 (AV.str s) none (some (AV.int IntKind.i64 (Int.ofNat m))) none = some (AV.str p))
    (H3 : call (CallT.fn 7) [AV.str p] h = FRes.ret (AV.tup [AV.str x, AV.int IntKind.i64 (Int.ofNat k)]) h1)
    (H4 : (!eqI (Int.ofNat k) (Int.ofNat 0)) = true)
    (H5 : eqI (Int.ofNat k) (Int.ofNat 6) = true)
    (H6 : beqBytes x [] = true)
    (H7 : call (CallT.fn 9) [AV.str p] h1 = FRes.ret (AV.bool b_1) g_1)
    (H8 : (!b_1) = true)
    (H9 : call (CallT.fn 11) [] g_1 = FRes.ret (AV.bool b_2) g_2) :
    RunF Tryd.prog Tryd.f5 none call [] (SSt.mk [(0, AV.str s)] [] Rc.none h) (AEx.ret)
      (SSt.mk [(2, AV.bool b_2)] [] Rc.none g_2) :=
  sxF_run [2] (hs := [Hint.v (AV.int IntKind.i64 (Int.ofNat m)), Hint.v (AV.str p), Hint.c (AV.tup [AV.str x, AV.int IntKind.i64 (Int.ofNat k)]) h1, Hint.b true, Hint.b true, Hint.b true, Hint.b true, Hint.b true, Hint.b true, Hint.c (AV.bool b_1) g_1, Hint.b true, Hint.b true, Hint.b true, Hint.c (AV.bool b_2) g_2, Hint.b true]) (by kernel_rfl) <| .cons H1 <| .cons H2 <| .cons H3 <| .cons H4 <| .cons H5 <| .cons H5 <| .cons H5 <| .cons H6 <| .cons H6 <| .cons H7 <| .cons H6 <| .cons H6 <| .cons H8 <| .cons H9 <| .cons H8 <| .nil
theorem law3_2 (call : CallT → List AV → AHeap → FRes) (s : List UInt8) (p : List UInt8) (x : List UInt8) (k : Nat) (m : Nat) (h : AHeap) (h1 : AHeap) (b_1 : Bool) (g_1 : AHeap) 
    (H1 : foldA minA (AV.int IntKind.i64 (Int.ofNat (List.length s))) [AV.int IntKind.i64 (Int.ofNat 1000)] = some (AV.int IntKind.i64 (Int.ofNat m)))
    (H2 : sliceA Tryd.prog h 9 (AV.str s) none (some (AV.int IntKind.i64 (Int.ofNat m))) none = some (AV.str p))
    (H3 : call (CallT.fn 7) [AV.str p] h = FRes.ret (AV.tup [AV.str x, AV.int IntKind.i64 (Int.ofNat k)]) h1)
    (H4 : (!eqI (Int.ofNat k) (Int.ofNat 0)) = true)
    (H5 : eqI (Int.ofNat k) (Int.ofNat 6) = true)
    (H6 : beqBytes x [] = true)
    (H7 : call (CallT.fn 9) [AV.str p] h1 = FRes.ret (AV.bool b_1) g_1)
    (H8 : (!b_1) = false) :
    RunF Tryd.prog Tryd.f5 none call [] (SSt.mk [(0, AV.str s)] [] Rc.none h) (AEx.ret)
      (SSt.mk [(2, AV.bool false)] [] Rc.none g_1) :=
  sxF_run [2] (hs := [Hint.v (AV.int IntKind.i64 (Int.ofNat m)), Hint.v (AV.str p), Hint.c (AV.tup [AV.str x, AV.int IntKind.i64 (Int.ofNat k)]) h1, Hint.b true, Hint.b true, Hint.b true, Hint.b true, Hint.b true, Hint.b true, Hint.c (AV.bool b_1) g_1, Hint.b true, Hint.b true, Hint.b false, Hint.b false]) (by kernel_rfl) <| .cons H1 <| .cons H2 <| .cons H3 <| .cons H4 <| .cons H5 <| .cons H5 <| .cons H5 <| .cons H6 <| .cons H6 <| .cons H7 <| .cons H6 <| .cons H6 <| .cons H8 <| .cons H8 <| .nil
theorem law3_3 (call : CallT → List AV → AHeap → FRes) (s : List UInt8) (p : List UInt8) (x : List UInt8) (k : Nat) (m : Nat) (h : AHeap) (h1 : AHeap) 
    (H1 : foldA minA (AV.int IntKind.i64 (Int.ofNat (List.length s))) [AV.int IntKind.i64 (Int.ofNat 1000)] = some (AV.int IntKind.i64 (Int.ofNat m)))
    (H2 : sliceA Tryd.prog h 9 (AV.str s) none (some (AV.int IntKind.i64 (Int.ofNat m))) none = some (AV.str p))
    (H3 : call (CallT.fn 7) [AV.str p] h = FRes.ret (AV.tup [AV.str x, AV.int IntKind.i64 (Int.ofNat k)]) h1)
    (H4 : (!eqI (Int.ofNat k) (Int.ofNat 0)) = true)
    (H5 : eqI (Int.ofNat k) (Int.ofNat 6) = true)
    (H6 : beqBytes x [] = false) :
    RunF Tryd.prog Tryd.f5 none call [] (SSt.mk [(0, AV.str s)] [] Rc.none h) (AEx.ret)
      (SSt.mk [(2, AV.bool false)] [] Rc.none h1) :=
  sxF_run [2] (hs := [Hint.v (AV.int IntKind.i64 (Int.ofNat m)), Hint.v (AV.str p), Hint.c (AV.tup [AV.str x, AV.int IntKind.i64 (Int.ofNat k)]) h1, Hint.b true, Hint.b true, Hint.b true, Hint.b true, Hint.b false, Hint.b false, Hint.b false, Hint.b false, Hint.b false, Hint.b false]) (by kernel_rfl) <| .cons H1 <| .cons H2 <| .cons H3 <| .cons H4 <| .cons H5 <| .cons H5 <| .cons H5 <| .cons H6 <| .cons H6 <| .cons H6 <| .cons H6 <| .cons (by kernel_rfl : false = false) <| .cons (by kernel_rfl : false = false) <| .nil
theorem law3_4 (call : CallT → List AV → AHeap → FRes) (s : List UInt8) (p : List UInt8) (x : List UInt8) (k : Nat) (m : Nat) (h : AHeap) (h1 : AHeap) 
    (H1 : foldA minA (AV.int IntKind.i64 (Int.ofNat (List.length s))) [AV.int IntKind.i64 (Int.ofNat 1000)] = some (AV.int IntKind.i64 (Int.ofNat m)))
    (H2 : sliceA Tryd.prog h 9 (AV.str s) none (some (AV.int IntKind.i64 (Int.ofNat m))) none = some (AV.str p))
    (H3 : call (CallT.fn 7) [AV.str p] h = FRes.ret (AV.tup [AV.str x, AV.int IntKind.i64 (Int.ofNat k)]) h1)
    (H4 : (!eqI (Int.ofNat k) (Int.ofNat 0)) = true)
    (H5 : eqI (Int.ofNat k) (Int.ofNat 6) = false) :
    RunF Tryd.prog Tryd.f5 none call [] (SSt.mk [(0, AV.str s)] [] Rc.none h) (AEx.ret)
      (SSt.mk [(2, AV.bool false)] [] Rc.none h1) :=
  sxF_run [2] (hs := [Hint.v (AV.int IntKind.i64 (Int.ofNat m)), Hint.v (AV.str p), Hint.c (AV.tup [AV.str x, AV.int IntKind.i64 (Int.ofNat k)]) h1, Hint.b true, Hint.b false, Hint.b false, Hint.b false, Hint.b false, Hint.b false, Hint.b false, Hint.b false, Hint.b false, Hint.b false]) (by kernel_rfl) <| .cons H1 <| .cons H2 <| .cons H3 <| .cons H4 <| .cons H5 <| .cons H5 <| .cons H5 <| .cons (by kernel_rfl : false = false) <| .cons (by kernel_rfl : false = false) <| .cons (by kernel_rfl : false = false) <| .cons (by kernel_rfl : false = false) <| .cons (by kernel_rfl : false = false) <| .cons (by kernel_rfl : false = false) <| .nil
theorem law3_5 (call : CallT → List AV → AHeap → FRes) (s : List UInt8) (p : List UInt8) (x : List UInt8) (k : Nat) (m : Nat) (h : AHeap) (h1 : AHeap) (b_1 : Bool) (g_1 : AHeap) (b_2 : Bool) (g_2 : AHeap) (b_3 : Bool) (g_3 : AHeap) (b_4 : Bool) (b_5 : Bool) (g_4 : AHeap) 
    (H1 : foldA minA (AV.int IntKind.i64 (Int.ofNat (List.length s))) [AV.int IntKind.i64 (Int.ofNat 1000)] = some (AV.int IntKind.i64 (Int.ofNat m)))
    (H2 : sliceA Tryd.prog h 9 (AV.str s) none (some (AV.int IntKind.i64 (Int.ofNat m))) none = some (AV.str p))
    (H3 : call (CallT.fn 7) [AV.str p] h = FRes.ret (AV.tup [AV.str x, AV.int IntKind.i64 (Int.ofNat k)]) h1)
    (H4 : (!eqI (Int.ofNat k) (Int.ofNat 0)) = false)
    (H5 : call (CallT.fn 9) [AV.str x] h1 = FRes.ret (AV.bool b_1) g_1)
    (H6 : b_1 = true)
    (H7 : call (CallT.fn 12) [AV.str x, AV.str x] g_1 = FRes.ret (AV.bool b_2) g_2)
    (H8 : b_2 = true)
    (H9 : call (CallT.fn 9) [AV.str p] g_2 = FRes.ret (AV.bool b_3) g_3)
    (H10 : binA Tryd.prog g_3 BinOp.eql 4 (Operand.tmp 40) (Operand.tmp 43) (AV.bool b_3) (AV.bool (beqBytes x p)) = some (AV.bool b_4))
    (H11 : b_4 = true)
    (H12 : call (CallT.fn 11) [] g_3 = FRes.ret (AV.bool b_5) g_4) :
    RunF Tryd.prog Tryd.f5 none call [] (SSt.mk [(0, AV.str s)] [] Rc.none h) (AEx.ret)
      (SSt.mk [(2, AV.bool b_5)] [] Rc.none g_4) :=
  sxF_run [2] (hs := [Hint.v (AV.int IntKind.i64 (Int.ofNat m)), Hint.v (AV.str p), Hint.c (AV.tup [AV.str x, AV.int IntKind.i64 (Int.ofNat k)]) h1, Hint.b false, Hint.c (AV.bool b_1) g_1, Hint.b true, Hint.b true, Hint.b true, Hint.c (AV.bool b_2) g_2, Hint.b true, Hint.b true, Hint.b true, Hint.c (AV.bool b_3) g_3, Hint.b true, Hint.b true, Hint.b true, Hint.b true, Hint.v (AV.bool b_4), Hint.b true, Hint.b true, Hint.c (AV.bool b_5) g_4, Hint.b true]) (by kernel_rfl) <| .cons H1 <| .cons H2 <| .cons H3 <| .cons H4 <| .cons H5 <| .cons H6 <| .cons H6 <| .cons H6 <| .cons H7 <| .cons H6 <| .cons H8 <| .cons H8 <| .cons H9 <| .cons H8 <| .cons H8 <| .cons H8 <| .cons H8 <| .cons H10 <| .cons H8 <| .cons H11 <| .cons H12 <| .cons H11 <| .nil
theorem law3_6 (call : CallT → List AV → AHeap → FRes) (s : List UInt8) (p : List UInt8) (x : List UInt8) (k : Nat) (m : Nat) (h : AHeap) (h1 : AHeap) (b_1 : Bool) (g_1 : AHeap) (b_2 : Bool) (g_2 : AHeap) (b_3 : Bool) (g_3 : AHeap) (b_4 : Bool) 
    (H1 : foldA minA (AV.int IntKind.i64 (Int.ofNat (List.length s))) [AV.int IntKind.i64 (Int.ofNat 1000)] = some (AV.int IntKind.i64 (Int.ofNat m)))
    (H2 : sliceA Tryd.prog h 9 (AV.str s) none (some (AV.int IntKind.i64 (Int.ofNat m))) none = some (AV.str p))
    (H3 : call (CallT.fn 7) [AV.str p] h = FRes.ret (AV.tup [AV.str x, AV.int IntKind.i64 (Int.ofNat k)]) h1)
    (H4 : (!eqI (Int.ofNat k) (Int.ofNat 0)) = false)
    (H5 : call (CallT.fn 9) [AV.str x] h1 = FRes.ret (AV.bool b_1) g_1)
    (H6 : b_1 = true)
    (H7 : call (CallT.fn 12) [AV.str x, AV.str x] g_1 = FRes.ret (AV.bool b_2) g_2)
    (H8 : b_2 = true)
    (H9 : call (CallT.fn 9) [AV.str p] g_2 = FRes.ret (AV.bool b_3) g_3)
    (H10 : binA Tryd.prog g_3 BinOp.eql 4 (Operand.tmp 40) (Operand.tmp 43) (AV.bool b_3) (AV.bool (beqBytes x p)) = some (AV.bool b_4))
    (H11 : b_4 = false) :
    RunF Tryd.prog Tryd.f5 none call [] (SSt.mk [(0, AV.str s)] [] Rc.none h) (AEx.ret)
      (SSt.mk [(2, AV.bool false)] [] Rc.none g_3) :=
  sxF_run [2] (hs := [Hint.v (AV.int IntKind.i64 (Int.ofNat m)), Hint.v (AV.str p), Hint.c (AV.tup [AV.str x, AV.int IntKind.i64 (Int.ofNat k)]) h1, Hint.b false, Hint.c (AV.bool b_1) g_1, Hint.b true, Hint.b true, Hint.b true, Hint.c (AV.bool b_2) g_2, Hint.b true, Hint.b true, Hint.b true, Hint.c (AV.bool b_3) g_3, Hint.b true, Hint.b true, Hint.b true, Hint.b true, Hint.v (AV.bool b_4), Hint.b true, Hint.b false, Hint.b false]) (by kernel_rfl) <| .cons H1 <| .cons H2 <| .cons H3 <| .cons H4 <| .cons H5 <| .cons H6 <| .cons H6 <| .cons H6 <| .cons H7 <| .cons H6 <| .cons H8 <| .cons H8 <| .cons H9 <| .cons H8 <| .cons H8 <| .cons H8 <| .cons H8 <| .cons H10 <| .cons H8 <| .cons H11 <| .cons H11 <| .nil
theorem law3_7 (call : CallT → List AV → AHeap → FRes) (s : List UInt8) (p : List UInt8) (x : List UInt8) (k : Nat) (m : Nat) (h : AHeap) (h1 : AHeap) (b_1 : Bool) (g_1 : AHeap) (b_2 : Bool) (g_2 : AHeap) 
    (H1 : foldA minA (AV.int IntKind.i64 (Int.ofNat (List.length s))) [AV.int IntKind.i64 (Int.ofNat 1000)] = some (AV.int IntKind.i64 (Int.ofNat m)))
    (H2 : sliceA Tryd.prog h 9 (AV.str s) none (some (AV.int IntKind.i64 (Int.ofNat m))) none = some (AV.str p))
    (H3 : call (CallT.fn 7) [AV.str p] h = FRes.ret (AV.tup [AV.str x, AV.int IntKind.i64 (Int.ofNat k)]) h1)
    (H4 : (!eqI (Int.ofNat k) (Int.ofNat 0)) = false)
    (H5 : call (CallT.fn 9) [AV.str x] h1 = FRes.ret (AV.bool b_1) g_1)
    (H6 : b_1 = true)
    (H7 : call (CallT.fn 12) [AV.str x, AV.str x] g_1 = FRes.ret (AV.bool b_2) g_2)
    (H8 : b_2 = false) :
    RunF Tryd.prog Tryd.f5 none call [] (SSt.mk [(0, AV.str s)] [] Rc.none h) (AEx.ret)
      (SSt.mk [(2, AV.bool false)] [] Rc.none g_2) :=
  sxF_run [2] (hs := [Hint.v (AV.int IntKind.i64 (Int.ofNat m)), Hint.v (AV.str p), Hint.c (AV.tup [AV.str x, AV.int IntKind.i64 (Int.ofNat k)]) h1, Hint.b false, Hint.c (AV.bool b_1) g_1, Hint.b true, Hint.b true, Hint.b true, Hint.c (AV.bool b_2) g_2, Hint.b true, Hint.b false, Hint.b false, Hint.b false, Hint.b false, Hint.b false, Hint.b false, Hint.b false, Hint.b false, Hint.b false]) (by kernel_rfl) <| .cons H1 <| .cons H2 <| .cons H3 <| .cons H4 <| .cons H5 <| .cons H6 <| .cons H6 <| .cons H6 <| .cons H7 <| .cons H6 <| .cons H8 <| .cons H8 <| .cons H8 <| .cons H8 <| .cons H8 <| .cons H8 <| .cons H8 <| .cons (by kernel_rfl : false = false) <| .cons (by kernel_rfl : false = false) <| .nil
theorem law3_8 (call : CallT → List AV → AHeap → FRes) (s : List UInt8) (p : List UInt8) (x : List UInt8) (k : Nat) (m : Nat) (h : AHeap) (h1 : AHeap) (b_1 : Bool) (g_1 : AHeap) 
    (H1 : foldA minA (AV.int IntKind.i64 (Int.ofNat (List.length s))) [AV.int IntKind.i64 (Int.ofNat 1000)] = some (AV.int IntKind.i64 (Int.ofNat m)))
    (H2 : sliceA Tryd.prog h 9 (AV.str s) none (some (AV.int IntKind.i64 (Int.ofNat m))) none = some (AV.str p))
    (H3 : call (CallT.fn 7) [AV.str p] h = FRes.ret (AV.tup [AV.str x, AV.int IntKind.i64 (Int.ofNat k)]) h1)
    (H4 : (!eqI (Int.ofNat k) (Int.ofNat 0)) = false)
    (H5 : call (CallT.fn 9) [AV.str x] h1 = FRes.ret (AV.bool b_1) g_1)
    (H6 : b_1 = false) :
    RunF Tryd.prog Tryd.f5 none call [] (SSt.mk [(0, AV.str s)] [] Rc.none h) (AEx.ret)
      (SSt.mk [(2, AV.bool false)] [] Rc.none g_1) :=
  sxF_run [2] (hs := [Hint.v (AV.int IntKind.i64 (Int.ofNat m)), Hint.v (AV.str p), Hint.c (AV.tup [AV.str x, AV.int IntKind.i64 (Int.ofNat k)]) h1, Hint.b false, Hint.c (AV.bool b_1) g_1, Hint.b false, Hint.b false, Hint.b false, Hint.b false, Hint.b false, Hint.b false, Hint.b false, Hint.b false, Hint.b false, Hint.b false, Hint.b false, Hint.b false, Hint.b false]) (by kernel_rfl) <| .cons H1 <| .cons H2 <| .cons H3 <| .cons H4 <| .cons H5 <| .cons H6 <| .cons H6 <| .cons H6 <| .cons H6 <| .cons (by kernel_rfl : false = false) <| .cons (by kernel_rfl : false = false) <| .cons (by kernel_rfl : false = false) <| .cons (by kernel_rfl : false = false) <| .cons (by kernel_rfl : false = false) <| .cons (by kernel_rfl : false = false) <| .cons (by kernel_rfl : false = false) <| .cons (by kernel_rfl : false = false) <| .cons (by kernel_rfl : false = false) <| .nil
theorem mk_0 (call : CallT → List AV → AHeap → FRes) (v : AV) (h : AHeap)  :
    RunF Tryd.prog Tryd.f4 none call [1, 0] (SSt.mk [(0, v)] [] Rc.none h) (AEx.nrm)
      (SSt.mk [(0, v), (3, AV.str [])] [] Rc.none h) :=
  sxF_run [0, 3, 4] (hs := []) (by kernel_rfl) <| .nil
theorem mk_rd_1 (call : CallT → List AV → AHeap → FRes) (b : Nat) (off : Nat) (n : Nat) (i : Nat) (m : Nat) (cap : Cap) (acc : List UInt8) (x : List UInt8) (p : List UInt8) (h : AHeap) (t_1 : List UInt8) (n_1 : Nat) (t_2 : List UInt8) 
    (H1 : ltI (Int.ofNat i) (Int.ofNat n) = true)
    (H2 : ltI (Int.ofNat i) (Int.ofNat 30) = true)
    (H3 : Nat.le (Nat.succ i) n)
    (H4 : load1 (AHeap.room h 14) b (off + i * 1) = some (AV.str x))
    (H5 : foldA minA (AV.int IntKind.i64 (Int.ofNat (List.length x))) [AV.int IntKind.i64 (Int.ofNat 20)] = some (AV.int IntKind.i64 (Int.ofNat m)))
    (H6 : sliceA Tryd.prog (AHeap.room h 14) 9 (AV.str x) none (some (AV.int IntKind.i64 (Int.ofNat m))) none = some (AV.str p))
    (H7 : strOp BinOp.add acc p = some (AV.str t_1))
    (H8 : arith BinOp.add IntKind.i64 (Int.ofNat i) (Int.ofNat 1) = some (AV.int IntKind.i64 (Int.ofNat n_1)))
    (H9 : ltI (Int.ofNat n_1) (Int.ofNat n) = true)
    (H10 : strOp BinOp.add t_1 [47] = some (AV.str t_2)) :
    RunF Tryd.prog Tryd.f4 none call [1, 1, 0, 1, 0, 0] (SSt.mk [(0, AV.slice b off n cap), (3, AV.str acc), (4, AV.int IntKind.i64 (Int.ofNat i))] [] Rc.none h) (AEx.nrm)
      (SSt.mk [(0, AV.slice b off n cap), (3, AV.str t_2), (4, AV.int IntKind.i64 (Int.ofNat n_1))] [] Rc.none (AHeap.room h 14)) :=
  sxF_run [0, 3, 4] (hs := [Hint.b true, Hint.b true, Hint.b true, Hint.b true, Hint.v (AV.ptr b (off + i * 1)), Hint.v (AV.str x), Hint.v (AV.ptr b (off + i * 1)), Hint.v (AV.str x), Hint.v (AV.int IntKind.i64 (Int.ofNat m)), Hint.v (AV.str p), Hint.v (AV.str t_1), Hint.v (AV.int IntKind.i64 (Int.ofNat n_1)), Hint.b true, Hint.v (AV.str t_2), Hint.v (AV.int IntKind.i64 (Int.ofNat n_1))]) (by kernel_rfl) <| .cons H1 <| .cons H1 <| .cons H1 <| .cons H2 <| .cons (⟨H3, rfl⟩ : Nat.le (Nat.succ i) n ∧ AV.ptr b (off + i * 1) = AV.ptr b (off + i * 1)) <| .cons H4 <| .cons (⟨H3, rfl⟩ : Nat.le (Nat.succ i) n ∧ AV.ptr b (off + i * 1) = AV.ptr b (off + i * 1)) <| .cons H4 <| .cons H5 <| .cons H6 <| .cons H7 <| .cons (by kernel_rfl : AV.sound (AV.str acc) = true) <| .cons (by kernel_rfl : AV.str acc = AV.str acc) <| .cons (by kernel_rfl : AV.sound (AV.slice b off n cap) = true) <| .cons (by kernel_rfl : AV.slice b off n cap = AV.slice b off n cap) <| .cons (by kernel_rfl : AV.sound (AV.int IntKind.i64 (Int.ofNat i)) = true) <| .cons (by kernel_rfl : AV.int IntKind.i64 (Int.ofNat i) = AV.int IntKind.i64 (Int.ofNat i)) <| .cons (by kernel_rfl : AV.sound (AV.ptr b (off + i * 1)) = true) <| .cons (⟨H3, rfl⟩ : Nat.le (Nat.succ i) n ∧ AV.ptr b (off + i * 1) = AV.ptr b (off + i * 1)) <| .cons (by kernel_rfl : AV.sound (AV.str x) = true) <| .cons H4 <| .cons (by kernel_rfl : AV.sound (AV.slice b off n cap) = true) <| .cons (by kernel_rfl : AV.slice b off n cap = AV.slice b off n cap) <| .cons (by kernel_rfl : AV.sound (AV.int IntKind.i64 (Int.ofNat i)) = true) <| .cons (by kernel_rfl : AV.int IntKind.i64 (Int.ofNat i) = AV.int IntKind.i64 (Int.ofNat i)) <| .cons (by kernel_rfl : AV.sound (AV.ptr b (off + i * 1)) = true) <| .cons (⟨H3, rfl⟩ : Nat.le (Nat.succ i) n ∧ AV.ptr b (off + i * 1) = AV.ptr b (off + i * 1)) <| .cons (by kernel_rfl : AV.sound (AV.str x) = true) <| .cons H4 <| .cons (by kernel_rfl : AV.sound (AV.int IntKind.i64 (Int.ofNat (List.length x))) = true) <| .cons (by kernel_rfl : AV.int IntKind.i64 (Int.ofNat (List.length x)) = AV.int IntKind.i64 (Int.ofNat (List.length x))) <| .cons (by kernel_rfl : AV.sound (AV.int IntKind.i64 (Int.ofNat m)) = true) <| .cons H5 <| .cons (by kernel_rfl : AV.sound (AV.str p) = true) <| .cons H6 <| .cons (by kernel_rfl : AV.sound (AV.str t_1) = true) <| .cons H7 <| .cons (by kernel_rfl : AV.sound (AV.str t_1) = true) <| .cons (by kernel_rfl : AV.str t_1 = AV.str t_1) <| .cons H8 <| .cons H9 <| .cons H10 <| .cons H8 <| .nil
theorem mk_rd_2 (call : CallT → List AV → AHeap → FRes) (b : Nat) (off : Nat) (n : Nat) (i : Nat) (m : Nat) (cap : Cap) (acc : List UInt8) (x : List UInt8) (p : List UInt8) (h : AHeap) (t_1 : List UInt8) (n_1 : Nat) 
    (H1 : ltI (Int.ofNat i) (Int.ofNat n) = true)
    (H2 : ltI (Int.ofNat i) (Int.ofNat 30) = true)
    (H3 : Nat.le (Nat.succ i) n)
    (H4 : load1 (AHeap.room h 14) b (off + i * 1) = some (AV.str x))
    (H5 : foldA minA (AV.int IntKind.i64 (Int.ofNat (List.length x))) [AV.int IntKind.i64 (Int.ofNat 20)] = some (AV.int IntKind.i64 (Int.ofNat m)))
    (H6 : sliceA Tryd.prog (AHeap.room h 14) 9 (AV.str x) none (some (AV.int IntKind.i64 (Int.ofNat m))) none = some (AV.str p))
    (H7 : strOp BinOp.add acc p = some (AV.str t_1))
    (H8 : arith BinOp.add IntKind.i64 (Int.ofNat i) (Int.ofNat 1) = some (AV.int IntKind.i64 (Int.ofNat n_1)))
    (H9 : ltI (Int.ofNat n_1) (Int.ofNat n) = false) :
    RunF Tryd.prog Tryd.f4 none call [1, 1, 0, 1, 0, 0] (SSt.mk [(0, AV.slice b off n cap), (3, AV.str acc), (4, AV.int IntKind.i64 (Int.ofNat i))] [] Rc.none h) (AEx.nrm)
      (SSt.mk [(0, AV.slice b off n cap), (3, AV.str t_1), (4, AV.int IntKind.i64 (Int.ofNat n_1))] [] Rc.none (AHeap.room h 14)) :=
  sxF_run [0, 3, 4] (hs := [Hint.b true, Hint.b true, Hint.b true, Hint.b true, Hint.v (AV.ptr b (off + i * 1)), Hint.v (AV.str x), Hint.v (AV.ptr b (off + i * 1)), Hint.v (AV.str x), Hint.v (AV.int IntKind.i64 (Int.ofNat m)), Hint.v (AV.str p), Hint.v (AV.str t_1), Hint.v (AV.int IntKind.i64 (Int.ofNat n_1)), Hint.b false, Hint.v (AV.int IntKind.i64 (Int.ofNat n_1))]) (by kernel_rfl) <| .cons H1 <| .cons H1 <| .cons H1 <| .cons H2 <| .cons (⟨H3, rfl⟩ : Nat.le (Nat.succ i) n ∧ AV.ptr b (off + i * 1) = AV.ptr b (off + i * 1)) <| .cons H4 <| .cons (⟨H3, rfl⟩ : Nat.le (Nat.succ i) n ∧ AV.ptr b (off + i * 1) = AV.ptr b (off + i * 1)) <| .cons H4 <| .cons H5 <| .cons H6 <| .cons H7 <| .cons (by kernel_rfl : AV.sound (AV.str acc) = true) <| .cons (by kernel_rfl : AV.str acc = AV.str acc) <| .cons (by kernel_rfl : AV.sound (AV.slice b off n cap) = true) <| .cons (by kernel_rfl : AV.slice b off n cap = AV.slice b off n cap) <| .cons (by kernel_rfl : AV.sound (AV.int IntKind.i64 (Int.ofNat i)) = true) <| .cons (by kernel_rfl : AV.int IntKind.i64 (Int.ofNat i) = AV.int IntKind.i64 (Int.ofNat i)) <| .cons (by kernel_rfl : AV.sound (AV.ptr b (off + i * 1)) = true) <| .cons (⟨H3, rfl⟩ : Nat.le (Nat.succ i) n ∧ AV.ptr b (off + i * 1) = AV.ptr b (off + i * 1)) <| .cons (by kernel_rfl : AV.sound (AV.str x) = true) <| .cons H4 <| .cons (by kernel_rfl : AV.sound (AV.slice b off n cap) = true) <| .cons (by kernel_rfl : AV.slice b off n cap = AV.slice b off n cap) <| .cons (by kernel_rfl : AV.sound (AV.int IntKind.i64 (Int.ofNat i)) = true) <| .cons (by kernel_rfl : AV.int IntKind.i64 (Int.ofNat i) = AV.int IntKind.i64 (Int.ofNat i)) <| .cons (by kernel_rfl : AV.sound (AV.ptr b (off + i * 1)) = true) <| .cons (⟨H3, rfl⟩ : Nat.le (Nat.succ i) n ∧ AV.ptr b (off + i * 1) = AV.ptr b (off + i * 1)) <| .cons (by kernel_rfl : AV.sound (AV.str x) = true) <| .cons H4 <| .cons (by kernel_rfl : AV.sound (AV.int IntKind.i64 (Int.ofNat (List.length x))) = true) <| .cons (by kernel_rfl : AV.int IntKind.i64 (Int.ofNat (List.length x)) = AV.int IntKind.i64 (Int.ofNat (List.length x))) <| .cons (by kernel_rfl : AV.sound (AV.int IntKind.i64 (Int.ofNat m)) = true) <| .cons H5 <| .cons (by kernel_rfl : AV.sound (AV.str p) = true) <| .cons H6 <| .cons (by kernel_rfl : AV.sound (AV.str t_1) = true) <| .cons H7 <| .cons (by kernel_rfl : AV.sound (AV.str t_1) = true) <| .cons (by kernel_rfl : AV.str t_1 = AV.str t_1) <| .cons H8 <| .cons H9 <| .cons H8 <| .nil
theorem mk_rd_3 (call : CallT → List AV → AHeap → FRes) (b : Nat) (off : Nat) (n : Nat) (i : Nat) (m : Nat) (cap : Cap) (acc : List UInt8) (x : List UInt8) (p : List UInt8) (h : AHeap) 
    (H1 : ltI (Int.ofNat i) (Int.ofNat n) = true)
    (H2 : ltI (Int.ofNat i) (Int.ofNat 30) = false) :
    RunF Tryd.prog Tryd.f4 none call [1, 1, 0, 1, 0, 0] (SSt.mk [(0, AV.slice b off n cap), (3, AV.str acc), (4, AV.int IntKind.i64 (Int.ofNat i))] [] Rc.none h) (AEx.exit 0)
      (SSt.mk [(0, AV.slice b off n cap), (3, AV.str acc), (4, AV.int IntKind.i64 (Int.ofNat i))] [] Rc.none h) :=
  sxF_run [0, 3, 4] (hs := [Hint.b true, Hint.b true, Hint.b true, Hint.b false]) (by kernel_rfl) <| .cons H1 <| .cons H1 <| .cons H1 <| .cons H2 <| .nil
theorem mk_rd_4 (call : CallT → List AV → AHeap → FRes) (b : Nat) (off : Nat) (n : Nat) (i : Nat) (m : Nat) (cap : Cap) (acc : List UInt8) (x : List UInt8) (p : List UInt8) (h : AHeap) 
    (H1 : ltI (Int.ofNat i) (Int.ofNat n) = false) :
    RunF Tryd.prog Tryd.f4 none call [1, 1, 0, 1, 0, 0] (SSt.mk [(0, AV.slice b off n cap), (3, AV.str acc), (4, AV.int IntKind.i64 (Int.ofNat i))] [] Rc.none h) (AEx.exit 0)
      (SSt.mk [(0, AV.slice b off n cap), (3, AV.str acc), (4, AV.int IntKind.i64 (Int.ofNat i))] [] Rc.none h) :=
  sxF_run [0, 3, 4] (hs := [Hint.b false, Hint.b false, Hint.b false, Hint.b false]) (by kernel_rfl) <| .cons H1 <| .cons H1 <| .cons H1 <| .cons (by kernel_rfl : false = false) <| .nil
theorem mk_nil (call : CallT → List AV → AHeap → FRes) (i : Nat) (acc : List UInt8) (h : AHeap)  :
    RunF Tryd.prog Tryd.f4 none call [1, 1, 0, 1, 0, 0] (SSt.mk [(0, AV.nilS), (3, AV.str acc), (4, AV.int IntKind.i64 (Int.ofNat i))] [] Rc.none h) (AEx.exit 0)
      (SSt.mk [(0, AV.nilS), (3, AV.str acc), (4, AV.int IntKind.i64 (Int.ofNat i))] [] Rc.none h) :=
  sxF_run [0, 3, 4] (hs := [Hint.b false, Hint.b false, Hint.b false, Hint.b false]) (by kernel_rfl) <| .cons (by kernel_rfl : ltI (Int.ofNat i) (Int.ofNat 0) = false) <| .cons (by kernel_rfl : ltI (Int.ofNat i) (Int.ofNat 0) = false) <| .cons (by kernel_rfl : ltI (Int.ofNat i) (Int.ofNat 0) = false) <| .cons (by kernel_rfl : false = false) <| .nil
theorem mk_1 (call : CallT → List AV → AHeap → FRes) (v : AV) (p : List UInt8) (x : List UInt8) (k : Nat) (b : Bool) (h : AHeap) (h1 : AHeap) (h2 : AHeap) (h3 : AHeap) (h4 : AHeap) (h5 : AHeap) (h6 : AHeap) 
    (H1 : RunF Tryd.prog Tryd.f4 none call [1, 1, 0, 1, 0] (SSt.mk [(4, AV.int IntKind.i64 (Int.ofNat 0)), (3, AV.str []), (2, AV.bool false), (0, v)] [] Rc.none h) (AEx.exit 0) (SSt.mk [(3, AV.str p)] [] Rc.none h1))
    (H2 : call (CallT.fn 7) [AV.str p] h1 = FRes.ret (AV.tup [AV.str x, AV.int IntKind.i64 (Int.ofNat k)]) h2)
    (H3 : call (CallT.fn 8) [AV.str p] h2 = FRes.ret (AV.tup [AV.str x, AV.int IntKind.i64 (Int.ofNat k)]) h3)
    (H4 : beqBytes x x = true)
    (H5 : eqI (Int.ofNat k) (Int.ofNat k) = true)
    (H6 : call (CallT.fn 9) [AV.str p] h3 = FRes.ret (AV.bool b) h4)
    (H7 : call (CallT.fn 10) [AV.str p] h4 = FRes.ret (AV.bool b) h5)
    (H8 : binA Tryd.prog h5 BinOp.eql 4 (Operand.tmp 59) (Operand.tmp 61) (AV.bool b) (AV.bool b) = some (AV.bool true))
    (H9 : call (CallT.fn 11) [] h5 = FRes.ret (AV.bool true) h6) :
    RunF Tryd.prog Tryd.f4 none call [] (SSt.mk [(0, v)] [] Rc.none h) (AEx.ret)
      (SSt.mk [(2, AV.bool true)] [] Rc.none h6) :=
  sxF_run [2] (hs := [Hint.loop (AEx.exit 0) (SSt.mk [(3, AV.str p)] [] Rc.none h1), Hint.c (AV.tup [AV.str x, AV.int IntKind.i64 (Int.ofNat k)]) h2, Hint.c (AV.tup [AV.str x, AV.int IntKind.i64 (Int.ofNat k)]) h3, Hint.b true, Hint.b true, Hint.b true, Hint.b true, Hint.b true, Hint.b true, Hint.c (AV.bool b) h4, Hint.b true, Hint.b true, Hint.c (AV.bool b) h5, Hint.b true, Hint.v (AV.bool true), Hint.b true, Hint.b true, Hint.c (AV.bool true) h6, Hint.b true]) (by kernel_rfl) <| .cons H1 <| .cons H2 <| .cons H3 <| .cons H4 <| .cons H4 <| .cons H4 <| .cons H4 <| .cons H5 <| .cons H5 <| .cons H6 <| .cons H5 <| .cons H5 <| .cons H7 <| .cons H5 <| .cons H8 <| .cons H5 <| .cons (by kernel_rfl : true = true) <| .cons H9 <| .cons (by kernel_rfl : true = true) <| .nil
theorem mk_2 (call : CallT → List AV → AHeap → FRes) (v : AV) (p : List UInt8) (x : List UInt8) (k : Nat) (b : Bool) (h : AHeap) (h1 : AHeap) (h2 : AHeap) (h3 : AHeap) (h4 : AHeap) (h5 : AHeap) (h6 : AHeap) 
    (H1 : RunF Tryd.prog Tryd.f4 none call [1, 1, 0, 1, 0] (SSt.mk [(4, AV.int IntKind.i64 (Int.ofNat 0)), (3, AV.str []), (2, AV.bool false), (0, v)] [] Rc.none h) (AEx.exit 0) (SSt.mk [(3, AV.str p)] [] Rc.none h1))
    (H2 : call (CallT.fn 7) [AV.str p] h1 = FRes.ret (AV.tup [AV.str x, AV.int IntKind.i64 (Int.ofNat k)]) h2)
    (H3 : call (CallT.fn 8) [AV.str p] h2 = FRes.ret (AV.tup [AV.str x, AV.int IntKind.i64 (Int.ofNat k)]) h3)
    (H4 : beqBytes x x = true)
    (H5 : eqI (Int.ofNat k) (Int.ofNat k) = false) :
    RunF Tryd.prog Tryd.f4 none call [] (SSt.mk [(0, v)] [] Rc.none h) (AEx.ret)
      (SSt.mk [(2, AV.bool false)] [] Rc.none h3) :=
  sxF_run [2] (hs := [Hint.loop (AEx.exit 0) (SSt.mk [(3, AV.str p)] [] Rc.none h1), Hint.c (AV.tup [AV.str x, AV.int IntKind.i64 (Int.ofNat k)]) h2, Hint.c (AV.tup [AV.str x, AV.int IntKind.i64 (Int.ofNat k)]) h3, Hint.b true, Hint.b true, Hint.b true, Hint.b true, Hint.b false, Hint.b false, Hint.b false, Hint.b false, Hint.b false, Hint.b false, Hint.b false, Hint.b false]) (by kernel_rfl) <| .cons H1 <| .cons H2 <| .cons H3 <| .cons H4 <| .cons H4 <| .cons H4 <| .cons H4 <| .cons H5 <| .cons H5 <| .cons H5 <| .cons H5 <| .cons H5 <| .cons H5 <| .cons (by kernel_rfl : false = false) <| .cons (by kernel_rfl : false = false) <| .nil
theorem mk_3 (call : CallT → List AV → AHeap → FRes) (v : AV) (p : List UInt8) (x : List UInt8) (k : Nat) (b : Bool) (h : AHeap) (h1 : AHeap) (h2 : AHeap) (h3 : AHeap) (h4 : AHeap) (h5 : AHeap) (h6 : AHeap) 
    (H1 : RunF Tryd.prog Tryd.f4 none call [1, 1, 0, 1, 0] (SSt.mk [(4, AV.int IntKind.i64 (Int.ofNat 0)), (3, AV.str []), (2, AV.bool false), (0, v)] [] Rc.none h) (AEx.exit 0) (SSt.mk [(3, AV.str p)] [] Rc.none h1))
    (H2 : call (CallT.fn 7) [AV.str p] h1 = FRes.ret (AV.tup [AV.str x, AV.int IntKind.i64 (Int.ofNat k)]) h2)
    (H3 : call (CallT.fn 8) [AV.str p] h2 = FRes.ret (AV.tup [AV.str x, AV.int IntKind.i64 (Int.ofNat k)]) h3)
    (H4 : beqBytes x x = false) :
    RunF Tryd.prog Tryd.f4 none call [] (SSt.mk [(0, v)] [] Rc.none h) (AEx.ret)
      (SSt.mk [(2, AV.bool false)] [] Rc.none h3) :=
  sxF_run [2] (hs := [Hint.loop (AEx.exit 0) (SSt.mk [(3, AV.str p)] [] Rc.none h1), Hint.c (AV.tup [AV.str x, AV.int IntKind.i64 (Int.ofNat k)]) h2, Hint.c (AV.tup [AV.str x, AV.int IntKind.i64 (Int.ofNat k)]) h3, Hint.b false, Hint.b false, Hint.b false, Hint.b false, Hint.b false, Hint.b false, Hint.b false, Hint.b false, Hint.b false, Hint.b false, Hint.b false, Hint.b false]) (by kernel_rfl) <| .cons H1 <| .cons H2 <| .cons H3 <| .cons H4 <| .cons H4 <| .cons H4 <| .cons H4 <| .cons (by kernel_rfl : false = false) <| .cons (by kernel_rfl : false = false) <| .cons (by kernel_rfl : false = false) <| .cons (by kernel_rfl : false = false) <| .cons (by kernel_rfl : false = false) <| .cons (by kernel_rfl : false = false) <| .cons (by kernel_rfl : false = false) <| .cons (by kernel_rfl : false = false) <| .nil

/-! ### The laws -/
theorem min_fold (a b : Nat) : foldA minA (.int .i64 (Int.ofNat a)) [.int .i64 (Int.ofNat b)] = some (.int .i64 (Int.ofNat (min a b))) := by
  simp only [foldA, minA, if_true]
  by_cases h : b < a
  · rw [lt_t h, if_pos rfl, Nat.min_eq_right (by omega)]
  · rw [lt_f h, Nat.min_eq_left (by omega)]; rfl
theorem works_c (n : Nat) (h : AHeap) : C (n + 1) (.fn 11) [] h = .ret (.bool true) h := rfl
theorem eqb_t (h : AHeap) (x y : Operand) (b : Bool) : binA Tryd.prog h BinOp.eql 4 x y (AV.bool b) (AV.bool b) = some (AV.bool true) := by
  have e1 : Tryd.prog.underlying 4 = some .bool := by kernel_rfl
  cases b <;> (simp only [binA, eqOK, eqA, e1]; rfl)
theorem is_c (s : List UInt8) (w : List UInt8) (h : AHeap) (hs : s.length ≤ 50000) (hc : cleanL s = some w) : ∃ h', C 9 (.fn 12) [.str s, .str w] h = .ret (.bool true) h' := by
  obtain ⟨h1, c1, _⟩ := clean_c 0 s h hs
  rw [hc] at c1
  exact ⟨h1, fn_runF (intr := tabIntr Wk) (n := 8) (args := [.str s, .str w]) Tryd.func12 (by kernel_rfl) rfl (by kernel_rfl) (is_1 (C 8) s w w 0 h h1 c1 (bb_t rfl)) (.inl rfl) (by kernel_rfl)⟩

theorem law1_c (s : List UInt8) (h : AHeap) : ∃ h', C 9 (.fn 3) [.str s] h = .ret (.bool true) h' := by
  have hp : (s.take (min s.length 1000)).length ≤ 50000 := by simp; omega
  obtain ⟨h1, c1, _⟩ := clean_c 0 (s.take (min s.length 1000)) h hp
  obtain ⟨h2, c2, _⟩ := rclean_c 6 (s.take (min s.length 1000)) h1 hp
  obtain ⟨h3, c3, _⟩ := may_c 0 (s.take (min s.length 1000)) h2 hp
  obtain ⟨h4, c4, _⟩ := rmay_c 6 (s.take (min s.length 1000)) h3 hp
  have hsl := slice_str_to (P := Tryd.prog) (h := h) (t := 9) (s := s) (hi := min s.length 1000) (k' := .i64) str_under (by omega)
  cases hc : cleanL (s.take (min s.length 1000)) with
  | none =>
    rw [hc] at c1 c2
    exact ⟨h4, fn_runF (intr := tabIntr Wk) (n := 8) (args := [.str s]) Tryd.func3 (by kernel_rfl) rfl (by kernel_rfl)
      (law1_1 (C 8) s _ _ 6 _ _ h h1 h2 h3 h4 h4 (min_fold _ _) hsl c1 c2 (bb_t rfl) (eq_t rfl) c3 c4 (eqb_t _ _ _ _) (works_c 7 h4)) (.inl rfl) (by kernel_rfl)⟩
  | some x =>
    rw [hc] at c1 c2
    exact ⟨h4, fn_runF (intr := tabIntr Wk) (n := 8) (args := [.str s]) Tryd.func3 (by kernel_rfl) rfl (by kernel_rfl)
      (law1_1 (C 8) s _ _ 0 _ _ h h1 h2 h3 h4 h4 (min_fold _ _) hsl c1 c2 (bb_t rfl) (eq_t rfl) c3 c4 (eqb_t _ _ _ _) (works_c 7 h4)) (.inl rfl) (by kernel_rfl)⟩

theorem law3_c (s : List UInt8) (h : AHeap) : ∃ h', C 10 (.fn 5) [.str s] h = .ret (.bool true) h' := by
  have hp : (s.take (min s.length 1000)).length ≤ 50000 := by simp; omega
  have hsl := slice_str_to (P := Tryd.prog) (h := h) (t := 9) (s := s) (hi := min s.length 1000) (k' := .i64) str_under (by omega)
  generalize s.take (min s.length 1000) = p at hp hsl
  obtain ⟨h1, c1, _⟩ := clean_c 1 p h hp
  cases hc : cleanL p with
  | none =>
    rw [hc] at c1
    obtain ⟨h2, c2, _⟩ := may_c 1 p h1 hp
    rw [clean_no hc] at c2
    exact ⟨h2, fn_runF (intr := tabIntr Wk) (n := 9) (args := [.str s]) Tryd.func5 (by kernel_rfl) rfl (by kernel_rfl)
      (law3_1 (C 9) s p [] 6 _ h h1 false h2 true h2 (min_fold _ _) hsl c1 rfl (eq_t rfl) (bb_t rfl) c2 rfl (works_c 8 h2)) (.inl rfl) (by kernel_rfl)⟩
  | some x =>
    rw [hc] at c1
    have hx := may_clean (clean_may hc)
    have hxl : x.length ≤ 50000 := clean_len hc
    obtain ⟨h2, c2, _⟩ := may_c 1 x h1 hxl
    rw [clean_may hc] at c2
    obtain ⟨h3, c3⟩ := is_c x x h2 hxl hx
    obtain ⟨h4, c4, _⟩ := may_c 1 p h3 hp
    rw [may_iff hc] at c4
    exact ⟨h4, fn_runF (intr := tabIntr Wk) (n := 9) (args := [.str s]) Tryd.func5 (by kernel_rfl) rfl (by kernel_rfl)
      (law3_5 (C 9) s p x 0 _ h h1 true h2 true h3 _ h4 true true h4 (min_fold _ _) hsl c1 rfl c2 rfl c3 rfl c4 (eqb_t _ _ _ _) rfl (works_c 8 h4)) (.inl rfl) (by kernel_rfl)⟩
end Go.Proofs.P05

namespace Go.Proofs.P05
open Go AEv Go.Proofs
set_option maxRecDepth 100000

/-! ### PathMade -/
theorem mk_loop (call : CallT → List AV → AHeap → FRes) (xs : List (List UInt8)) (b ty lo up : Nat) (k : BK) (cap : Cap) : ∀ (n i : Nat) (acc : List UInt8) (h : AHeap), 30 - i = n → i ≤ 30 → i ≤ xs.length → acc.length ≤ 21 * i → h.get b = some (.cells (xs.map .str) ty k lo up) →
    ∃ acc' h', LoopF Tryd.prog Tryd.f4 none call [1, 1, 0, 1, 0] (n + 1) ⟨[(0, .slice b 0 xs.length cap), (3, .str acc), (4, .int .i64 (Int.ofNat i))], [], .none, h⟩ (.exit 0) ⟨[(3, .str acc')], [], .none, h'⟩ ∧ acc'.length ≤ 630
  | 0, i, acc, h, hn, hi, hx, ha, hg => by
    have : i = 30 := by omega
    subst this
    by_cases hlt : 30 < xs.length
    · exact ⟨acc, h, .exit (RunP.post (mk_rd_3 call b 0 xs.length 30 0 cap acc [] [] h (lt_t hlt) (lt_f (by omega))) ⟨rfl, trivial⟩) (by simp), by omega⟩
    · exact ⟨acc, h, .exit (RunP.post (mk_rd_4 call b 0 xs.length 30 0 cap acc [] [] h (lt_f hlt)) ⟨rfl, trivial⟩) (by simp), by omega⟩
  | n + 1, i, acc, h, hn, hi, hx, ha, hg => by
    by_cases hlt : i < xs.length
    · have hld : load1 (h.room 14) b (0 + i * 1) = some (.str xs[i]) := by
        have hg' : (h.room 14).get b = some (.cells (xs.map .str ++ []) ty k lo up) := by simpa using hg
        exact load_at hg' hlt
      have hsl := slice_str_to (P := Tryd.prog) (h := h.room 14) (t := 9) (s := xs[i]) (hi := min xs[i].length 20) (k' := .i64) str_under (by omega)
      have hpl : (xs[i].take (min xs[i].length 20)).length ≤ 20 := by simp; omega
      by_cases hn1 : i + 1 < xs.length
      · have st := mk_rd_1 call b 0 xs.length i _ cap acc xs[i] _ h _ _ _ (lt_t hlt) (lt_t (by omega)) hlt hld (min_fold _ _) hsl (str_add (by omega)) (add_n (by omega)) (lt_t hn1) (str_add (by simp; omega))
        obtain ⟨acc', h', l1, l2⟩ := mk_loop call xs b ty lo up k cap n (i + 1) (acc ++ xs[i].take (min xs[i].length 20) ++ [47]) (h.room 14) (by omega) (by omega) (by omega) (by simp at hpl ⊢; omega) hg
        exact ⟨acc', h', .step st l1, l2⟩
      · have st := mk_rd_2 call b 0 xs.length i _ cap acc xs[i] _ h _ _ (lt_t hlt) (lt_t (by omega)) hlt hld (min_fold _ _) hsl (str_add (by omega)) (add_n (by omega)) (lt_f hn1)
        obtain ⟨acc', h', l1, l2⟩ := mk_loop call xs b ty lo up k cap n (i + 1) (acc ++ xs[i].take (min xs[i].length 20)) (h.room 14) (by omega) (by omega) (by omega) (by simp at hpl ⊢; omega) hg
        exact ⟨acc', h', .step st l1, l2⟩
    · exact ⟨acc, h, .exit (RunP.post (mk_rd_4 call b 0 xs.length i 0 cap acc [] [] h (lt_f hlt)) ⟨rfl, trivial⟩) (by simp), by omega⟩
theorem law2_end (v : AV) (p : List UInt8) (h h1 : AHeap) (hp : p.length ≤ 50000) (hl : RunF Tryd.prog Tryd.f4 none (C 8) [1, 1, 0, 1, 0] ⟨[(0, v), (3, .str []), (4, .int .i64 (Int.ofNat 0))], [], .none, h⟩ (.exit 0) ⟨[(3, .str p)], [], .none, h1⟩) : ∃ h', C 9 (.fn 4) [v] h = .ret (.bool true) h' := by
  obtain ⟨h2, c1, _⟩ := clean_c 0 p h1 hp
  obtain ⟨h3, c2, _⟩ := rclean_c 6 p h2 hp
  obtain ⟨h4, c3, _⟩ := may_c 0 p h3 hp
  obtain ⟨h5, c4, _⟩ := rmay_c 6 p h4 hp
  have hl' := RunP.pre (st1 := ⟨[(4, AV.int IntKind.i64 (Int.ofNat 0)), (3, AV.str []), (2, AV.bool false), (0, v)], [], .none, h⟩) hl ⟨rfl, rfl, rfl, trivial⟩ rfl rfl rfl
  cases hc : cleanL p with
  | none =>
    rw [hc] at c1 c2
    exact ⟨h5, fn_runF (intr := tabIntr Wk) (n := 8) (args := [v]) Tryd.func4 (by kernel_rfl) rfl (by kernel_rfl)
      (mk_1 (C 8) v p [] 6 _ h h1 h2 h3 h4 h5 h5 hl' c1 c2 (bb_t rfl) (eq_t rfl) c3 c4 (eqb_t _ _ _ _) (works_c 7 h5)) (.inl rfl) (by kernel_rfl)⟩
  | some x =>
    rw [hc] at c1 c2
    exact ⟨h5, fn_runF (intr := tabIntr Wk) (n := 8) (args := [v]) Tryd.func4 (by kernel_rfl) rfl (by kernel_rfl)
      (mk_1 (C 8) v p x 0 _ h h1 h2 h3 h4 h5 h5 hl' c1 c2 (bb_t rfl) (eq_t rfl) c3 c4 (eqb_t _ _ _ _) (works_c 7 h5)) (.inl rfl) (by kernel_rfl)⟩
theorem law2_c (xs : List (List UInt8)) (b ty lo up : Nat) (k : BK) (cap : Cap) (h : AHeap) (hg : h.get b = some (.cells (xs.map .str) ty k lo up)) : ∃ h', C 9 (.fn 4) [.slice b 0 xs.length cap] h = .ret (.bool true) h' := by
  obtain ⟨p, h1, l1, l2⟩ := mk_loop (C 8) xs b ty lo up k cap 30 0 [] h rfl (by omega) (by omega) (by simp) hg
  exact law2_end _ p h h1 (by omega) (LoopF.run (p := [1, 1, 0, 1, 0]) (by kernel_rfl) l1 (by omega))
theorem law2_nil (h : AHeap) : ∃ h', C 9 (.fn 4) [.nilS] h = .ret (.bool true) h' :=
  law2_end _ [] h h (by simp) (LoopF.run (p := [1, 1, 0, 1, 0]) (n := 1) (by kernel_rfl) (.exit (RunP.post (mk_nil (C 8) 0 [] h) ⟨rfl, trivial⟩) (by simp)) (by omega))
/-- No piece, in a slice that is not nil. -/
theorem law2_none (b : Nat) (h : AHeap) : ∃ h', C 9 (.fn 4) [.slice b 0 0 .dead] h = .ret (.bool true) h' :=
  law2_end _ [] h h (by simp) (LoopF.run (p := [1, 1, 0, 1, 0]) (n := 1) (by kernel_rfl) (.exit (RunP.post (mk_rd_4 (C 8) b 0 0 0 0 .dead [] [] [] h (lt_f (by omega))) ⟨rfl, trivial⟩) (by simp)) (by omega))
end Go.Proofs.P05
