/-
  PROVED HERE: contracts of functions (Di). No condition beside each statement's own.
-/
import Derived.Test.YtbndinilpflomaaDh
set_option linter.unusedVariables false
set_option linter.unusedSimpArgs false
namespace Go.Proofs.Wire
open Go AEv Go.Proofs Go.Proofs.Enc
set_option maxRecDepth 100000
set_option maxHeartbeats 1000000

/-! ### msg.Answered, joined; the document's -/
theorem load5 {h : AHeap} {b t : Nat} {x : List AV} (hx : x.length = 5) (hg : h.get b = some (.cells x t .own 0 0)) : AEv.loadCells h b 0 5 = some x := by
  have := load_row (xs := x) (rest := []) (by simpa using hg)
  rwa [hx] at this
abbrev rsp0 : List AV := [.int .i64 (Int.ofNat 0), .str [], .nilS, .nilS, .int .u64 (Int.ofNat 0)]
theorem rowK_shape {D : Type} {enc : D → List AV} {w : Nat} {el : TypeId} {B : Nat} {h : AHeap} {v : AV} {ds : List D} (ho : RowK enc w el B h v ds) : v = .nilS ∨ ∃ p n c, v = .slice p 0 n c := by
  rcases ho with ⟨rfl, _⟩ | ⟨p, c, rfl, _⟩
  · exact .inl rfl
  · exact .inr ⟨_, _, _, rfl⟩
theorem decQ_bad {B : Nat} {h : AHeap} {s : List UInt8} {w : AV} {e : Nat} (q : DecQ B h s w e) : (e = 0 ∧ ∃ l, Good s l ∧ RowK encD 3 35 B h w l ∧ l.length < 80000) ∨ (¬ e = 0 ∧ (∀ l, ¬ Good s l)) := by
  rcases q with ⟨l, g, o, rfl, hl⟩ | ⟨n, rfl, rfl⟩
  · refine .inl ⟨rfl, l, g, ?_, hl⟩
    rcases o with o | ⟨P, h1, h2, h3, h4, h5⟩
    · exact .inl o
    · exact .inr ⟨P, _, h1, ⟨h2, by simp⟩, h3, h4, h5⟩
  · exact .inr ⟨by omega, n⟩
theorem RowK.le {D : Type} {enc : D → List AV} {w : Nat} {el : TypeId} {B B' : Nat} {h : AHeap} {v : AV} {ds : List D} (ho : RowK enc w el B' h v ds) (hB : B ≤ B') : RowK enc w el B h v ds := by
  rcases ho with ho | ⟨p, c, h1, h2, h3, h4, h5⟩
  · exact .inl ho
  · exact .inr ⟨p, c, h1, h2, h3, Nat.le_trans hB h4, h5⟩
theorem Rd.setCells {h : AHeap} {p D : Nat} {st : RdS} {cs : List AV} {el : Nat} {o : Option AObj} (hr : Rd h p st) (hD : h.get D = some (.cells cs el .own 0 0)) (hp : ¬ p = D) : Rd (h.set D o) p st := by
  cases st with
  | none => obtain ⟨h1, h2⟩ := hr; exact ⟨by simpa using h1, gother hp h2⟩
  | some s =>
    obtain ⟨h1, h2, v, h3, h4⟩ := hr
    refine ⟨by simpa using h1, h2, v, gother hp h3, ?_⟩
    rcases h4 with h4 | ⟨b, pre, q1, q2, q3, q4⟩
    · exact .inl h4
    · exact .inr ⟨b, pre, q1, by simpa using q2, q3, gother (fun e => by subst e; rw [hD] at q4; cases q4) q4⟩
theorem answered_c (m : Nat) (s : List UInt8) (h : AHeap) (hs : s.length ≤ 60000) : ∃ vs e h', C (m + 8) (.fn 35) [.str s] h = .ret (.tup [.agg vs, .int .i64 (Int.ofNat e)]) h' ∧ Ext h.n h h' ∧ RspQ h.n h' s vs e := by
  obtain ⟨H, hH⟩ : ∃ H, H = h.push (.cells rsp0 54 .own 0 0) := ⟨_, rfl⟩
  have xH : Ext h.n h H := by rw [hH]; exact exA
  have nH : H.n = h.n + 1 := by rw [hH]; rfl
  have aH : H.get h.n = some (.cells rsp0 54 .own 0 0) := by rw [hH]; exact gtop rfl
  obtain ⟨p, g, c1, x1, hp, r1⟩ := newr_c (m + 6) s H (by omega)
  have ag : g.get h.n = some (.cells rsp0 54 .own 0 0) := (x1.get h.n (by omega)).trans aH
  have n1 := x1.n
  obtain ⟨g1, c2, x2, r2⟩ := num_c (m + 2) p (some s) g r1
  obtain ⟨g2, c3, x3, r3⟩ := text_c (m + 1) p _ g1 r2
  have n2 := x2.n
  have n3 := x3.n
  have ow2 : OwnK p g g2 := (OwnK.ofX x2).trans (OwnK.ofX x3)
  have hpa : h.n ≠ p := by omega
  have a2v := ow2.2 h.n _ _ (by omega) hpa ag
  obtain ⟨cd, hcd⟩ : ∃ cd, cd = anCode s := ⟨_, rfl⟩
  rw [show (numS (some s)).1 = cd by rw [hcd]; rfl] at c2
  rw [show (textS (numS (some s)).2).1 = anText s from rfl] at c3
  rw [show (textS (numS (some s)).2).2 = anS2 s from rfl] at r3
  obtain ⟨g3, hg3⟩ : ∃ g3, g3 = (g2.push (.cells [.int .u64 (Int.ofNat 0), .str [], .int .u64 (Int.ofNat 0)] 94 .own 0 0)).set g2.n (some (.cells [.int .u64 (Int.ofNat cd), .str (anText s), .int .u64 (Int.ofNat 0)] 94 .own 0 0)) := ⟨_, rfl⟩
  have st3 : AEv.storeCells (g2.push (.cells [.int .u64 (Int.ofNat 0), .str [], .int .u64 (Int.ofNat 0)] 94 .own 0 0)) g2.n 0 [.int .u64 (Int.ofNat cd), .str (anText s), .int .u64 (Int.ofNat 0)] = some g3 := by rw [hg3]; exact stc (gtop rfl) rfl rfl
  have x3' : Ext g2.n g2 g3 := by rw [hg3]; exact exA
  have n3' : g3.n = g2.n + 1 := by rw [hg3]; rfl
  have q3 : g3.get g2.n = some (.cells [.int .u64 (Int.ofNat cd), .str (anText s), .int .u64 (Int.ofNat 0)] 94 .own 0 0) := by rw [hg3]; exact gsame rfl
  have a3v := (x3'.get h.n (by omega)).trans a2v
  have hpq : g2.n ≠ p := by have := r1.lt; omega
  obtain ⟨g4, c4, x4, r4⟩ := num_c (m + 2) p (anS2 s) g3 (r3.mono x3' (Nat.le_refl _))
  have n4 := x4.n
  rw [show (numS (anS2 s)).1 = anN s from rfl] at c4
  rw [show (numS (anS2 s)).2 = anS3 s from rfl] at r4
  have hN : anN s < 18446744073709551616 := numS_lt _
  have hms : msr (anS3 s) ≤ s.length + 2 := by
    have h1 := numS_len (some s)
    have h2 := textS_len (numS (some s)).2
    have h3 := numS_len (anS2 s)
    have h4 : (left (anS2 s)).length ≤ (left (numS (some s)).2).length := h2.1
    have h5 : (left (some s)).length = s.length := rfl
    cases hx : anS3 s with
    | none => show 1 ≤ _; omega
    | some v =>
      have h6 : (left (anS3 s)).length ≤ (left (anS2 s)).length := h3
      rw [hx] at h6
      have : v.length ≤ (left (anS2 s)).length := h6
      show v.length + 2 ≤ _; omega
  obtain ⟨ps, st4, w, g5, z1, z2, z3, z4, z5, z6⟩ := al_loop m p h.n g2.n h.n (s.length + 2) (anN s) (anS3 s) .nilS [] g4 hms (by simp; omega) hN r4 (.inl ⟨rfl, rfl⟩) (by omega) (by omega)
  rw [List.nil_append] at z3
  have hpl := readsT_len z1
  have loop := LoopF.run (p := [1, 1, 1, 1, 0, 1, 0]) (by kernel_rfl) z6 (by omega)
  have ow4 : OwnK p g3 g5 := (OwnK.ofX x4).trans z5
  have n5 := z5.1
  have a5v := ow4.2 h.n _ _ (by omega) hpa a3v
  have q5 := ow4.2 g2.n _ _ (by omega) hpq q3
  obtain ⟨cs5, hcs5⟩ := z2.cells
  obtain ⟨g6, c6, x6, r6⟩ := text_c (m + 1) p st4 g5 z2
  have n6 := x6.n
  have o6 := (z3.monoX hcs5 x6 (Nat.le_refl _))
  have a6v := (x6.get h.n (by omega) hpa).trans a5v
  have q6 := (x6.get g2.n (by omega) hpq).trans q5
  have htl : (textS st4).1.length ≤ 70000 := by
    have h1 := (textS_len st4).2
    have h2 : (left st4).length ≤ 60000 := by
      have key : ∀ {n : Nat} {a b : RdS} {l : List (List UInt8)}, ReadsT n a l b → (left b).length ≤ (left a).length := by
        intro n a b l hh
        induction hh with
        | nil st => exact Nat.le_refl _
        | bad n => exact Nat.le_refl _
        | cons hh ih => rename_i n u l st; have := (textS_len (some u)).1; omega
      have h3 := key z1
      have h4 := numS_len (some s)
      have h5 := (textS_len (numS (some s)).2).1
      have h6 : (left (anS3 s)).length ≤ (left (anS2 s)).length := numS_len (anS2 s)
      have h7 : (left (anS2 s)).length ≤ (left (numS (some s)).2).length := h5
      have h8 : (left (some s)).length = s.length := rfl
      omega
    omega
  obtain ⟨wd, e, g7, c7, x7, d7⟩ := decode_c m (textS st4).1 g6 htl
  have n7 := x7.n
  have o7 := o6.mono x7 (Nat.le_refl _)
  have a7v := (x7.get h.n (by omega)).trans a6v
  have q7 := (x7.get g2.n (by omega)).trans q6
  have r7 := r6.mono x7 (Nat.le_refl _)
  obtain ⟨cs7, hcs7⟩ := r7.cells
  obtain ⟨g8, c8, x8, r8⟩ := num_c (m + 2) p _ g7 r7
  have n8 := x8.n
  have o8 := o7.monoX hcs7 x8 (Nat.le_refl _)
  have a8v := (x8.get h.n (by omega) hpa).trans a7v
  have q8 := (x8.get g2.n (by omega) hpq).trans q7
  obtain ⟨nm, hnm⟩ : ∃ nm, nm = (numS (textS st4).2).1 := ⟨_, rfl⟩
  rw [← hnm] at c8
  obtain ⟨g9, hg9⟩ : ∃ g9, g9 = g8.set g2.n (some (.cells [.int .u64 (Int.ofNat cd), .str (anText s), .int .u64 (Int.ofNat nm)] 94 .own 0 0)) := ⟨_, rfl⟩
  have st9 : AEv.storeCells g8 g2.n (0 + 2) [.int .u64 (Int.ofNat nm)] = some g9 := by rw [hg9]; exact stc q8 rfl rfl
  have n9 : g9.n = g8.n := by rw [hg9]; rfl
  have o9 : OutG encS 1 9 h.n g9 w ps := by rw [hg9]; exact o8.setOwn q8
  have a9v : g9.get h.n = some (.cells rsp0 54 .own 0 0) := by rw [hg9]; exact gother (by omega) a8v
  have q9 : g9.get g2.n = some (.cells [.int .u64 (Int.ofNat cd), .str (anText s), .int .u64 (Int.ofNat nm)] 94 .own 0 0) := by rw [hg9]; exact gsame rfl
  have r9 : Rd g9 p (numS (textS st4).2).2 := by rw [hg9]; exact r8.setCells q8 (fun e => hpq e.symm)
  have ce := end_c (m + 5) p _ g9 r9
  have hph : h.n ≤ p := by omega
  have y1 : Ext h.n h g := xH.trans xH.n x1
  have y2 := Ext.callX x2 y1.n hph y1
  have y3 := Ext.callX x3 y2.n hph y2
  have y4 := Ext.callR x3' y3.n y3
  have y5 := Ext.callX x4 y4.n hph y4
  have y6 := y5.trans (Nat.le_refl _) z4
  have y7 := Ext.callX x6 y6.n hph y6
  have y8 := Ext.callR x7 y7.n y7
  have y9 := Ext.callX x8 y8.n hph y8
  have x09 : Ext h.n h g9 := by rw [hg9]; exact Ext.setR (by omega) y9
  have s0 := a0 (C (m + 7)) s h
  rw [← hH] at s0
  have s1 := a1 (C (m + 7)) s h.n p H g c1
  have s2 := a2 (C (m + 7)) h.n p g cd g1 (anText s) g2 g3 c2 c3 st3
  have s3 := a3 (C (m + 7)) h.n p g2.n g3
  have s4 := a4 (C (m + 7)) h.n p g2.n w g3 g5 (anN s) g4 c4 (RunP.pre loop ⟨rfl, rfl, rfl, rfl, rfl, trivial⟩ rfl rfl rfl)
  have s5 := a5 (C (m + 7)) h.n p g2.n e w wd g5 g7 (textS st4).1 g6 c6 c7
  have s6 := a6 (C (m + 7)) h.n p g2.n e w wd g7 nm g8 g9 c8 st9
  have fin : ∀ {Γ : Env} {h' : AHeap} {v : AV}, RunF Try.prog Try.f35 none (C (m + 7)) [1, 1, 1, 1, 1, 1, 1] ⟨[(2, .ptr h.n 0), (4, .ptr p 0), (5, .ptr g2.n 0), (6, w), (8, wd), (9, .int .i64 (Int.ofNat e))], [], .none, g9⟩ .ret ⟨Γ, [], .none, h'⟩ → resS Try.prog (needFn Try.f35) Try.f35 Γ h' = some v → C (m + 8) (.fn 35) [.str s] h = .ret v h' := fun hr hres =>
    fn_runF (intr := Ii) (n := m + 7) (args := [.str s]) Try.func35 (by kernel_rfl) rfl (by kernel_rfl)
      (RunF.seq (p := []) (by kernel_rfl) s0 (RunF.seq (p := [1]) (by kernel_rfl) s1 (RunF.seq (p := [1, 1]) (by kernel_rfl) s2 (RunF.seq (p := [1, 1, 1]) (by kernel_rfl) s3 (RunF.seq (p := [1, 1, 1, 1]) (by kernel_rfl) s4 (RunF.seq (p := [1, 1, 1, 1, 1]) (by kernel_rfl) s5 (RunF.seq (p := [1, 1, 1, 1, 1, 1]) (by kernel_rfl) s6 hr))))))) (.inl rfl) hres
  have res : ∀ {Γ : Env} {vs : List AV} {e : Nat} {h' : AHeap}, lk 2 Γ = some (.ptr h.n 0) → lk 3 Γ = some (.int .i64 (Int.ofNat e)) → h'.get h.n = some (.cells vs 54 .own 0 0) → vs.length = 5 → resS Try.prog (needFn Try.f35) Try.f35 Γ h' = some (.tup [.agg vs, .int .i64 (Int.ofNat e)]) := fun {Γ vs e h'} e1 e2 hg hl =>
    resS_ct (t := 2) (u := 3) (by kernel_rfl) (by kernel_rfl) (by kernel_rfl) (by kernel_rfl) (by kernel_rfl : sizeT Try.prog 54 = some 5) e1 e2 (load5 hl hg)
  have sta : AEv.storeCells g9 h.n 0 rsp0 = some (g9.set h.n (some (.cells rsp0 54 .own 0 0))) := stc a9v rfl rfl
  have bad : ¬ anOK s st4 → RspQ h.n (g9.set h.n (some (.cells rsp0 54 .own 0 0))) s rsp0 4 := fun hb => ⟨ps, st4, z1, .inr ⟨hb, rfl, rfl⟩⟩
  have xbad : Ext h.n h (g9.set h.n (some (.cells rsp0 54 .own 0 0))) := Ext.setR (Nat.le_refl _) x09
  rcases decQ_bad d7 with ⟨rfl, l, hg, hwd, hl⟩ | ⟨he, hno⟩
  · by_cases hend : endS (numS (textS st4).2).2 = true
    · rw [hend] at ce
      have ld : load1 g9 g2.n (0 + 0) = some (.int .u64 (Int.ofNat cd)) := ld1 q9 rfl
      by_cases hc : cd ≤ 14
      · have hwd9 : RowK encD 3 35 h.n g9 wd l := by
          rw [hg9]
          exact ((hwd.monoX hcs7 x8 (Nat.le_refl _)).setOwn q8).le y7.n
        have o9' := o9.mono (B' := g9.n) (h' := g9.room 13) (Ext.roomR (Ext.refl _ _)) (Nat.le_refl _)
        obtain ⟨wp, ccl, hwp, hsh⟩ := clip_c (m + 6) h.n w ps (g9.room 13) o9'
        have s8 := a8_any m h.n g2.n w wp wd cd nm (anText s) g9 hsh (rowK_shape hwd9) hc q9 a9v ccl
        have s7 := a7_4 (C (m + 7)) h.n p g2.n 0 w wd g9 true g9 cd rfl ce rfl ld (lt_f (by omega))
        have a13 : (g9.room 13).get h.n = some (.cells rsp0 54 .own 0 0) := groom a9v
        refine ⟨_, 0, _, fin (RunF.seq (p := [1, 1, 1, 1, 1, 1, 1]) (by kernel_rfl) s7 s8) (res rfl rfl (gsame rfl) rfl), Ext.setR (Nat.le_refl _) (Ext.roomR x09), ps, st4, z1, .inl ⟨l, wp, wd, hg, hend, by rw [← hcd]; exact hc, rfl, by rw [hcd, hnm], hwp.setOwn a13, ?_, hl, by omega⟩⟩
        exact (hwd9.mono (B' := g9.n) (h' := g9.room 13) (Ext.roomR (Ext.refl _ _)) (Nat.le_refl _)).setOwn a13
      · have s7 := a7_3 (C (m + 7)) h.n p g2.n 0 w wd g9 true g9 cd _ rfl ce rfl ld (lt_t (by omega)) sta
        exact ⟨rsp0, 4, _, fin (RunF.seqx (p := [1, 1, 1, 1, 1, 1, 1]) (by kernel_rfl) s7 (by simp)) (res rfl rfl (gsame rfl) rfl), xbad, bad fun hb => hc (by rw [hcd]; exact hb.2.2)⟩
    · have hend' : endS (numS (textS st4).2).2 = false := by simpa using hend
      rw [hend'] at ce
      have s7 := a7_2 (C (m + 7)) h.n p g2.n 0 w wd g9 false g9 _ rfl ce rfl sta
      exact ⟨rsp0, 4, _, fin (RunF.seqx (p := [1, 1, 1, 1, 1, 1, 1]) (by kernel_rfl) s7 (by simp)) (res rfl rfl (gsame rfl) rfl), xbad, bad fun hb => hend hb.2.1⟩
  · have s7 := a7_1 (C (m + 7)) h.n p g2.n e w wd g9 _ (by rw [eqI_f he]; rfl) sta
    exact ⟨rsp0, 4, _, fin (RunF.seqx (p := [1, 1, 1, 1, 1, 1, 1]) (by kernel_rfl) s7 (by simp)) (res rfl rfl (gsame rfl) rfl), xbad, bad fun hb => by obtain ⟨l, hl⟩ := hb.1; exact hno l hl⟩

/-! ### the document's -/
end Go.Proofs.Wire

namespace Go.Proofs.Wire
open Go AEv Go.Proofs Go.Proofs.Enc
set_option maxRecDepth 100000
set_option maxHeartbeats 1000000

/-! ### The document's Answered -/
end Go.Proofs.Wire

namespace Go.Proofs.Wire
open Go AEv Go.Proofs Go.Proofs.Enc
set_option maxRecDepth 100000
set_option maxHeartbeats 1000000

/-! ### Are two responses alike? MsgReads -/
theorem nth_strs : ∀ (ps : List (List UInt8)) (i : Nat) (hi : i < ps.length), nth i (rowL encS ps) = some (.str ps[i])
  | [], i, hi => by simp at hi
  | x :: l, 0, hi => rfl
  | x :: l, i + 1, hi => by
    have := nth_strs l i (by simpa using hi)
    rw [rowL_cons]
    simpa [nth] using this
theorem str_at {h : AHeap} {b el lo up : Nat} {k : BK} {ps : List (List UInt8)} (hg : h.get b = some (.cells (rowL encS ps) el k lo up)) {i : Nat} (hi : i < ps.length) : load1 h b (0 + i * 1) = some (.str ps[i]) := by
  have e : 0 + i * 1 = i := by omega
  simp only [load1, hg, e, nth_strs ps i hi]
theorem eqI_self (a : Int) : eqI a a = true := by simp [eqI]
end Go.Proofs.Wire

namespace Go.Proofs.Wire
open Go AEv Go.Proofs Go.Proofs.Enc
set_option maxRecDepth 100000
set_option maxHeartbeats 1000000

/-! ### MsgReads -/
def eqR (k : Int) (a b c : List UInt8) (k' : Int) (a' b' c' : List UInt8) : Bool := eqI k k' && (beqBytes a a' && (beqBytes b b' && beqBytes c c'))
def eq4 (p q r s : Bool) : Option Bool := match some p with
  | some true => (match some q with
    | some true => (match some r with
      | some true => (match some s with
        | some true => some true
        | r => r)
      | r => r)
    | r => r)
  | r => r
theorem eq4_and (p q r s : Bool) : eq4 p q r s = some (p && (q && (r && s))) := by cases p <;> cases q <;> cases r <;> cases s <;> rfl
theorem eqA_rq (h : AHeap) (k : Int) (a b c : List UInt8) (k' : Int) (a' b' c' : List UInt8) : eqA Try.prog h 100 42 (.agg (rqV k a b c)) (.agg (rqV k' a' b' c')) = some (eqR k a b c k' a' b' c') := by
  have e : eqA Try.prog h 100 42 (.agg (rqV k a b c)) (.agg (rqV k' a' b' c')) = eq4 (eqI k k') (beqBytes a a') (beqBytes b b') (beqBytes c c') := by kernel_rfl
  rw [e, eq4_and]; rfl
theorem bin_rq (h : AHeap) (x y : Operand) (k : Int) (a b c : List UInt8) (k' : Int) (a' b' c' : List UInt8) : binA Try.prog h BinOp.eql 42 x y (.agg (rqV k a b c)) (.agg (rqV k' a' b' c')) = some (.bool (eqR k a b c k' a' b' c')) := by
  have ok : eqOK Try.prog 42 x y (.agg (rqV k a b c)) (.agg (rqV k' a' b' c')) = true := by kernel_rfl
  simp only [binA, ok, if_true, eqA_rq]
end Go.Proofs.Wire

namespace Go.Proofs.Wire
open Go AEv Go.Proofs Go.Proofs.Enc
set_option maxRecDepth 100000
set_option maxHeartbeats 1000000

theorem an0ss (call : CallT → List AV → AHeap → FRes) (c n : Int) (t : List UInt8) (b1 n1 : Nat) (k1 : Cap) (b2 n2 : Nat) (k2 : Cap) (h : AHeap) :
    RunF Try.prog Try.f39 none call [0] (SSt.mk [(0, .agg [.int .i64 c, .str t, .slice b1 0 n1 k1, .slice b2 0 n2 k2, .int .u64 n])] [] .none h) (.nrm)
      (SSt.mk [(1, .ptr (AHeap.n h) 0)] [] .none (AHeap.push h (.cells [.int .i64 c, .str t, .slice b1 0 n1 k1, .slice b2 0 n2 k2, .int .u64 n] 54 .own 0 0))) :=
  sxF_run [1] (hs := []) (by kernel_rfl) <| .nil
theorem an0sn (call : CallT → List AV → AHeap → FRes) (c n : Int) (t : List UInt8) (b1 n1 : Nat) (k1 : Cap) (h : AHeap) :
    RunF Try.prog Try.f39 none call [0] (SSt.mk [(0, .agg [.int .i64 c, .str t, .slice b1 0 n1 k1, .nilS, .int .u64 n])] [] .none h) (.nrm)
      (SSt.mk [(1, .ptr (AHeap.n h) 0)] [] .none (AHeap.push h (.cells [.int .i64 c, .str t, .slice b1 0 n1 k1, .nilS, .int .u64 n] 54 .own 0 0))) :=
  sxF_run [1] (hs := []) (by kernel_rfl) <| .nil
theorem an0ns (call : CallT → List AV → AHeap → FRes) (c n : Int) (t : List UInt8) (b2 n2 : Nat) (k2 : Cap) (h : AHeap) :
    RunF Try.prog Try.f39 none call [0] (SSt.mk [(0, .agg [.int .i64 c, .str t, .nilS, .slice b2 0 n2 k2, .int .u64 n])] [] .none h) (.nrm)
      (SSt.mk [(1, .ptr (AHeap.n h) 0)] [] .none (AHeap.push h (.cells [.int .i64 c, .str t, .nilS, .slice b2 0 n2 k2, .int .u64 n] 54 .own 0 0))) :=
  sxF_run [1] (hs := []) (by kernel_rfl) <| .nil
theorem an0nn (call : CallT → List AV → AHeap → FRes) (c n : Int) (t : List UInt8) (h : AHeap) :
    RunF Try.prog Try.f39 none call [0] (SSt.mk [(0, .agg [.int .i64 c, .str t, .nilS, .nilS, .int .u64 n])] [] .none h) (.nrm)
      (SSt.mk [(1, .ptr (AHeap.n h) 0)] [] .none (AHeap.push h (.cells [.int .i64 c, .str t, .nilS, .nilS, .int .u64 n] 54 .own 0 0))) :=
  sxF_run [1] (hs := []) (by kernel_rfl) <| .nil
theorem an1_1 (call : CallT → List AV → AHeap → FRes) (p : Nat) (c : Int) (h : AHeap)
    (H1 : load1 h p (0 + 0) = some (.int .i64 c))
    (H2 : ltI c (.ofNat 0) = true) :
    RunF Try.prog Try.f39 none call [1, 0] (SSt.mk [(1, .ptr p 0)] [] .none h) (.ret)
      (SSt.mk [(1, .ptr p 0), (2, .str [])] [] .none h) :=
  sxF_run [1, 2] (hs := [.v (.int .i64 c), .b true, .b true, .b true, .b true, .b true]) (by kernel_rfl) <| .cons H1 <| .cons H2 <| .cons H2 <| .cons H2 <| .cons H2 <| .cons (by kernel_rfl : true = true) <| .nil
theorem an1_2 (call : CallT → List AV → AHeap → FRes) (p : Nat) (c : Int) (h : AHeap)
    (H1 : load1 h p (0 + 0) = some (.int .i64 c))
    (H2 : ltI c (.ofNat 0) = false)
    (H3 : ltI (.ofNat 14) c = true) :
    RunF Try.prog Try.f39 none call [1, 0] (SSt.mk [(1, .ptr p 0)] [] .none h) (.ret)
      (SSt.mk [(1, .ptr p 0), (2, .str [])] [] .none h) :=
  sxF_run [1, 2] (hs := [.v (.int .i64 c), .b false, .b false, .v (.int .i64 c), .b false, .b false, .b true]) (by kernel_rfl) <| .cons H1 <| .cons H2 <| .cons H2 <| .cons H1 <| .cons H2 <| .cons H2 <| .cons H3 <| .nil
theorem an1_3 (call : CallT → List AV → AHeap → FRes) (p : Nat) (c : Int) (h : AHeap)
    (H1 : load1 h p (0 + 0) = some (.int .i64 c))
    (H2 : ltI c (.ofNat 0) = false)
    (H3 : ltI (.ofNat 14) c = false) :
    RunF Try.prog Try.f39 none call [1, 0] (SSt.mk [(1, .ptr p 0)] [] .none h) (.nrm)
      (SSt.mk [(1, .ptr p 0)] [] .none h) :=
  sxF_run [1, 2] (hs := [.v (.int .i64 c), .b false, .b false, .v (.int .i64 c), .b false, .b false, .b false]) (by kernel_rfl) <| .cons H1 <| .cons H2 <| .cons H2 <| .cons H1 <| .cons H2 <| .cons H2 <| .cons H3 <| .nil
theorem an2s (call : CallT → List AV → AHeap → FRes) (p b1 n1 : Nat) (k1 : Cap) (h : AHeap) (n_1 n_2 : Nat) (t_1 : List UInt8) (g_1 : AHeap) (t_2 t_3 : List UInt8) (g_2 : AHeap) (n_3 : Nat) (t_4 : List UInt8) (g_3 : AHeap)
    (H1 : load1 (AHeap.room h 13) p (0 + 0) = some (.int .i64 (.ofNat n_1)))
    (H2 : evConvert Try.prog 29 52 (AV.int IntKind.i64 (Int.ofNat n_1)) (AHeap.room h 13) = OpRes.val (AV.int IntKind.u64 (Int.ofNat n_2)) (AHeap.room h 13))
    (H3 : call (.fn 51) [.str [], .int .u64 (.ofNat n_2)] (AHeap.room h 13) = FRes.ret (.str t_1) g_1)
    (H4 : load1 g_1 p (0 + 1) = some (.str t_2))
    (H5 : call (.fn 52) [.str t_1, .str t_2] g_1 = FRes.ret (.str t_3) g_2)
    (H6 : load1 g_2 p (0 + 2) = some (.slice b1 0 n1 k1))
    (H7 : evConvert Try.prog 3 52 (AV.int IntKind.i64 (Int.ofNat n1)) g_2 = OpRes.val (AV.int IntKind.u64 (Int.ofNat n_3)) g_2)
    (H8 : call (.fn 51) [.str t_3, .int .u64 (.ofNat n_3)] g_2 = FRes.ret (.str t_4) g_3)
    (H9 : load1 (AHeap.room h 13) p (0 + 1) = some (.str t_2))
    (H10 : load1 g_1 p (0 + 2) = some (.slice b1 0 n1 k1))
    (H11 : load1 (AHeap.room h 13) p (0 + 2) = some (.slice b1 0 n1 k1))
    (H12 : evConvert Try.prog 3 52 (AV.int IntKind.i64 (Int.ofNat n1)) g_1 = OpRes.val (AV.int IntKind.u64 (Int.ofNat n_3)) g_1)
    (H13 : evConvert Try.prog 3 52 (AV.int IntKind.i64 (Int.ofNat n1)) (AHeap.room h 13) = OpRes.val (AV.int IntKind.u64 (Int.ofNat n_3)) (AHeap.room h 13)) :
    RunF Try.prog Try.f39 none call [1, 1, 0] (SSt.mk [(1, .ptr p 0)] [] .none h) (.nrm)
      (SSt.mk [(1, .ptr p 0), (3, .str t_4)] [] .none g_3) :=
  sxF_run [1, 3] (hs := [.v (.int .i64 (.ofNat n_1)), .v (.int .u64 (.ofNat n_2)), .c (.str t_1) g_1, .v (.str t_2), .c (.str t_3) g_2, .v (.slice b1 0 n1 k1), .v (.int .u64 (.ofNat n_3)), .c (.str t_4) g_3]) (by kernel_rfl) <| .cons H1 <| .cons H2 <| .cons H3 <| .cons H4 <| .cons H5 <| .cons H6 <| .cons H7 <| .cons H8 <| .cons (by kernel_rfl : AV.sound (AV.ptr p (0 + 0)) = true) <| .cons (by kernel_rfl : AV.ptr p (0 + 0) = AV.ptr p (0 + 0)) <| .cons (by kernel_rfl : AV.sound (AV.int IntKind.i64 (Int.ofNat n_1)) = true) <| .cons H1 <| .cons (by kernel_rfl : AV.sound (AV.int IntKind.u64 (Int.ofNat n_2)) = true) <| .cons H2 <| .cons (by kernel_rfl : AV.sound (AV.ptr p (0 + 1)) = true) <| .cons (by kernel_rfl : AV.ptr p (0 + 1) = AV.ptr p (0 + 1)) <| .cons (by kernel_rfl : AV.sound (AV.ptr p (0 + 1)) = true) <| .cons (by kernel_rfl : AV.ptr p (0 + 1) = AV.ptr p (0 + 1)) <| .cons (by kernel_rfl : AV.sound (AV.str t_2) = true) <| .cons H4 <| .cons (by kernel_rfl : AV.sound (AV.str t_2) = true) <| .cons H9 <| .cons (by kernel_rfl : AV.sound (AV.ptr p (0 + 2)) = true) <| .cons (by kernel_rfl : AV.ptr p (0 + 2) = AV.ptr p (0 + 2)) <| .cons (by kernel_rfl : AV.sound (AV.ptr p (0 + 2)) = true) <| .cons (by kernel_rfl : AV.ptr p (0 + 2) = AV.ptr p (0 + 2)) <| .cons (by kernel_rfl : AV.sound (AV.ptr p (0 + 2)) = true) <| .cons (by kernel_rfl : AV.ptr p (0 + 2) = AV.ptr p (0 + 2)) <| .cons (by kernel_rfl : AV.sound (AV.slice b1 0 n1 k1) = true) <| .cons H6 <| .cons (by kernel_rfl : AV.sound (AV.slice b1 0 n1 k1) = true) <| .cons H10 <| .cons (by kernel_rfl : AV.sound (AV.slice b1 0 n1 k1) = true) <| .cons H11 <| .cons (by kernel_rfl : AV.sound (AV.int IntKind.i64 (Int.ofNat n1)) = true) <| .cons (by kernel_rfl : AV.int IntKind.i64 (Int.ofNat n1) = AV.int IntKind.i64 (Int.ofNat n1)) <| .cons (by kernel_rfl : AV.sound (AV.int IntKind.i64 (Int.ofNat n1)) = true) <| .cons (by kernel_rfl : AV.int IntKind.i64 (Int.ofNat n1) = AV.int IntKind.i64 (Int.ofNat n1)) <| .cons (by kernel_rfl : AV.sound (AV.int IntKind.i64 (Int.ofNat n1)) = true) <| .cons (by kernel_rfl : AV.int IntKind.i64 (Int.ofNat n1) = AV.int IntKind.i64 (Int.ofNat n1)) <| .cons (by kernel_rfl : AV.sound (AV.int IntKind.u64 (Int.ofNat n_3)) = true) <| .cons H7 <| .cons (by kernel_rfl : AV.sound (AV.int IntKind.u64 (Int.ofNat n_3)) = true) <| .cons H12 <| .cons (by kernel_rfl : AV.sound (AV.int IntKind.u64 (Int.ofNat n_3)) = true) <| .cons H13 <| .cons (by kernel_rfl : AV.sound (AV.str t_4) = true) <| .cons (by kernel_rfl : AV.str t_4 = AV.str t_4) <| .nil
theorem an2n (call : CallT → List AV → AHeap → FRes) (p : Nat) (h : AHeap) (n_1 n_2 : Nat) (t_1 : List UInt8) (g_1 : AHeap) (t_2 t_3 : List UInt8) (g_2 : AHeap) (t_4 : List UInt8) (g_3 : AHeap)
    (H1 : load1 (AHeap.room h 13) p (0 + 0) = some (.int .i64 (.ofNat n_1)))
    (H2 : evConvert Try.prog 29 52 (AV.int IntKind.i64 (Int.ofNat n_1)) (AHeap.room h 13) = OpRes.val (AV.int IntKind.u64 (Int.ofNat n_2)) (AHeap.room h 13))
    (H3 : call (.fn 51) [.str [], .int .u64 (.ofNat n_2)] (AHeap.room h 13) = FRes.ret (.str t_1) g_1)
    (H4 : load1 g_1 p (0 + 1) = some (.str t_2))
    (H5 : call (.fn 52) [.str t_1, .str t_2] g_1 = FRes.ret (.str t_3) g_2)
    (H6 : load1 g_2 p (0 + 2) = some .nilS)
    (H7 : call (.fn 51) [.str t_3, .int .u64 (.ofNat 0)] g_2 = FRes.ret (.str t_4) g_3)
    (H8 : load1 (AHeap.room h 13) p (0 + 1) = some (.str t_2))
    (H9 : load1 g_1 p (0 + 2) = some .nilS)
    (H10 : load1 (AHeap.room h 13) p (0 + 2) = some .nilS) :
    RunF Try.prog Try.f39 none call [1, 1, 0] (SSt.mk [(1, .ptr p 0)] [] .none h) (.nrm)
      (SSt.mk [(1, .ptr p 0), (3, .str t_4)] [] .none g_3) :=
  sxF_run [1, 3] (hs := [.v (.int .i64 (.ofNat n_1)), .v (.int .u64 (.ofNat n_2)), .c (.str t_1) g_1, .v (.str t_2), .c (.str t_3) g_2, .v .nilS, .v (.int .u64 (.ofNat 0)), .c (.str t_4) g_3]) (by kernel_rfl) <| .cons H1 <| .cons H2 <| .cons H3 <| .cons H4 <| .cons H5 <| .cons H6 <| .cons (by kernel_rfl : evConvert Try.prog 3 52 (AV.int IntKind.i64 (Int.ofNat 0)) g_2 = OpRes.val (AV.int IntKind.u64 (Int.ofNat 0)) g_2) <| .cons H7 <| .cons (by kernel_rfl : AV.sound (AV.ptr p (0 + 0)) = true) <| .cons (by kernel_rfl : AV.ptr p (0 + 0) = AV.ptr p (0 + 0)) <| .cons (by kernel_rfl : AV.sound (AV.int IntKind.i64 (Int.ofNat n_1)) = true) <| .cons H1 <| .cons (by kernel_rfl : AV.sound (AV.int IntKind.u64 (Int.ofNat n_2)) = true) <| .cons H2 <| .cons (by kernel_rfl : AV.sound (AV.ptr p (0 + 1)) = true) <| .cons (by kernel_rfl : AV.ptr p (0 + 1) = AV.ptr p (0 + 1)) <| .cons (by kernel_rfl : AV.sound (AV.ptr p (0 + 1)) = true) <| .cons (by kernel_rfl : AV.ptr p (0 + 1) = AV.ptr p (0 + 1)) <| .cons (by kernel_rfl : AV.sound (AV.str t_2) = true) <| .cons H4 <| .cons (by kernel_rfl : AV.sound (AV.str t_2) = true) <| .cons H8 <| .cons (by kernel_rfl : AV.sound (AV.ptr p (0 + 2)) = true) <| .cons (by kernel_rfl : AV.ptr p (0 + 2) = AV.ptr p (0 + 2)) <| .cons (by kernel_rfl : AV.sound (AV.ptr p (0 + 2)) = true) <| .cons (by kernel_rfl : AV.ptr p (0 + 2) = AV.ptr p (0 + 2)) <| .cons (by kernel_rfl : AV.sound (AV.ptr p (0 + 2)) = true) <| .cons (by kernel_rfl : AV.ptr p (0 + 2) = AV.ptr p (0 + 2)) <| .cons (by kernel_rfl : AV.sound AV.nilS = true) <| .cons H6 <| .cons (by kernel_rfl : AV.sound AV.nilS = true) <| .cons H9 <| .cons (by kernel_rfl : AV.sound AV.nilS = true) <| .cons H10 <| .cons (by kernel_rfl : AV.sound (AV.int IntKind.i64 (Int.ofNat 0)) = true) <| .cons (by kernel_rfl : AV.int IntKind.i64 (Int.ofNat 0) = AV.int IntKind.i64 (Int.ofNat 0)) <| .cons (by kernel_rfl : AV.sound (AV.int IntKind.i64 (Int.ofNat 0)) = true) <| .cons (by kernel_rfl : AV.int IntKind.i64 (Int.ofNat 0) = AV.int IntKind.i64 (Int.ofNat 0)) <| .cons (by kernel_rfl : AV.sound (AV.int IntKind.i64 (Int.ofNat 0)) = true) <| .cons (by kernel_rfl : AV.int IntKind.i64 (Int.ofNat 0) = AV.int IntKind.i64 (Int.ofNat 0)) <| .cons (by kernel_rfl : AV.sound (AV.int IntKind.u64 (Int.ofNat 0)) = true) <| .cons (by kernel_rfl : evConvert Try.prog 3 52 (AV.int IntKind.i64 (Int.ofNat 0)) g_2 = OpRes.val (AV.int IntKind.u64 (Int.ofNat 0)) g_2) <| .cons (by kernel_rfl : AV.sound (AV.int IntKind.u64 (Int.ofNat 0)) = true) <| .cons (by kernel_rfl : evConvert Try.prog 3 52 (AV.int IntKind.i64 (Int.ofNat 0)) g_1 = OpRes.val (AV.int IntKind.u64 (Int.ofNat 0)) g_1) <| .cons (by kernel_rfl : AV.sound (AV.int IntKind.u64 (Int.ofNat 0)) = true) <| .cons (by kernel_rfl : evConvert Try.prog 3 52 (AV.int IntKind.i64 (Int.ofNat 0)) (AHeap.room h 13) = OpRes.val (AV.int IntKind.u64 (Int.ofNat 0)) (AHeap.room h 13)) <| .cons (by kernel_rfl : AV.sound (AV.str t_4) = true) <| .cons (by kernel_rfl : AV.str t_4 = AV.str t_4) <| .nil
theorem an3s (call : CallT → List AV → AHeap → FRes) (p b1 n1 : Nat) (k1 : Cap) (s t : List UInt8) (h g : AHeap)
    (H1 : load1 h p (0 + 2) = some (.slice b1 0 n1 k1))
    (H2 : RunF Try.prog Try.f39 none call [1, 1, 1, 0, 1, 0] (SSt.mk [(29, .int .i64 (.ofNat 0)), (28, .int .i64 (.ofNat n1)), (27, .slice b1 0 n1 k1), (1, .ptr p 0), (3, .str s)] [] .none h) (.exit 0) (SSt.mk [(1, .ptr p 0), (3, .str t)] [] .none g)) :
    RunF Try.prog Try.f39 none call [1, 1, 1, 0] (SSt.mk [(1, .ptr p 0), (3, .str s)] [] .none h) (.nrm)
      (SSt.mk [(1, .ptr p 0), (3, .str t)] [] .none g) :=
  sxF_run [1, 3] (hs := [Hint.v (AV.slice b1 0 n1 k1), Hint.loop (AEx.exit 0) (SSt.mk [(1, AV.ptr p 0), (3, AV.str t)] [] Rc.none g)]) (by kernel_rfl) <| .cons H1 <| .cons H2 <| .nil
theorem an3n (call : CallT → List AV → AHeap → FRes) (p : Nat) (s t : List UInt8) (h g : AHeap)
    (H1 : load1 h p (0 + 2) = some .nilS)
    (H2 : RunF Try.prog Try.f39 none call [1, 1, 1, 0, 1, 0] (SSt.mk [(29, .int .i64 (.ofNat 0)), (28, .int .i64 (.ofNat 0)), (27, .nilS), (1, .ptr p 0), (3, .str s)] [] .none h) (.exit 0) (SSt.mk [(1, .ptr p 0), (3, .str t)] [] .none g)) :
    RunF Try.prog Try.f39 none call [1, 1, 1, 0] (SSt.mk [(1, .ptr p 0), (3, .str s)] [] .none h) (.nrm)
      (SSt.mk [(1, .ptr p 0), (3, .str t)] [] .none g) :=
  sxF_run [1, 3] (hs := [Hint.v AV.nilS, Hint.loop (AEx.exit 0) (SSt.mk [(1, AV.ptr p 0), (3, AV.str t)] [] Rc.none g)]) (by kernel_rfl) <| .cons H1 <| .cons H2 <| .nil
theorem anl_1 (call : CallT → List AV → AHeap → FRes) (p b1 n1 i : Nat) (k1 : Cap) (s : List UInt8) (h : AHeap) (t_1 t_2 : List UInt8) (g_1 : AHeap) (n_1 : Nat)
    (H1 : ltI (.ofNat i) (.ofNat n1) = true)
    (H2 : Nat.le (Nat.succ i) n1)
    (H3 : load1 h b1 (0 + i * 1) = some (.str t_1))
    (H4 : call (.fn 52) [.str s, .str t_1] h = FRes.ret (.str t_2) g_1)
    (H5 : arith .add .i64 (.ofNat i) (.ofNat 1) = some (.int .i64 (.ofNat n_1))) :
    RunF Try.prog Try.f39 none call [1, 1, 1, 0, 1, 0, 0] (SSt.mk [(1, .ptr p 0), (3, .str s), (27, .slice b1 0 n1 k1), (28, .int .i64 (.ofNat n1)), (29, .int .i64 (.ofNat i))] [] .none h) (.nrm)
      (SSt.mk [(1, .ptr p 0), (3, .str t_2), (27, .slice b1 0 n1 k1), (28, .int .i64 (.ofNat n1)), (29, .int .i64 (.ofNat n_1))] [] .none g_1) :=
  sxF_run [1, 3, 27, 28, 29] (hs := [.b true, .v (.ptr b1 (0 + i * 1)), .v (.str t_1), .c (.str t_2) g_1, .v (.int .i64 (.ofNat n_1))]) (by kernel_rfl) <| .cons H1 <| .cons (⟨H2, rfl⟩ : Nat.le (Nat.succ i) n1 ∧ AV.ptr b1 (0 + i * 1) = AV.ptr b1 (0 + i * 1)) <| .cons H3 <| .cons H4 <| .cons H5 <| .nil
theorem anl_2 (call : CallT → List AV → AHeap → FRes) (p b1 n1 i : Nat) (k1 : Cap) (s : List UInt8) (h : AHeap)
    (H1 : ltI (.ofNat i) (.ofNat n1) = false) :
    RunF Try.prog Try.f39 none call [1, 1, 1, 0, 1, 0, 0] (SSt.mk [(1, .ptr p 0), (3, .str s), (27, .slice b1 0 n1 k1), (28, .int .i64 (.ofNat n1)), (29, .int .i64 (.ofNat i))] [] .none h) (.exit 0)
      (SSt.mk [(1, .ptr p 0), (3, .str s), (27, .slice b1 0 n1 k1), (28, .int .i64 (.ofNat n1)), (29, .int .i64 (.ofNat i))] [] .none h) :=
  sxF_run [1, 3, 27, 28, 29] (hs := [.b false]) (by kernel_rfl) <| .cons H1 <| .nil
theorem anlz (call : CallT → List AV → AHeap → FRes) (p : Nat) (s : List UInt8) (h : AHeap) :
    RunF Try.prog Try.f39 none call [1, 1, 1, 0, 1, 0, 0] (SSt.mk [(1, .ptr p 0), (3, .str s), (27, .nilS), (28, .int .i64 (.ofNat 0)), (29, .int .i64 (.ofNat 0))] [] .none h) (.exit 0)
      (SSt.mk [(1, .ptr p 0), (3, .str s)] [] .none h) :=
  sxF_run [1, 3] (hs := [.b false]) (by kernel_rfl) <| .cons (by kernel_rfl : ltI (Int.ofNat 0) (Int.ofNat 0) = false) <| .nil
theorem an4 (call : CallT → List AV → AHeap → FRes) (p : Nat) (s : List UInt8) (wd : AV) (h : AHeap) (t_1 : List UInt8) (g_1 : AHeap) (t_2 : List UInt8) (g_2 : AHeap) (n_1 : Nat) (t_3 : List UInt8) (g_3 : AHeap)
    (H1 : load1 (AHeap.room h 9) p (0 + 3) = some wd)
    (H2 : call (.fn 17) [wd] (AHeap.room h 9) = FRes.ret (.str t_1) g_1)
    (H3 : call (.fn 52) [.str s, .str t_1] g_1 = FRes.ret (.str t_2) g_2)
    (H4 : load1 g_2 p (0 + 4) = some (.int .u64 (.ofNat n_1)))
    (H5 : call (.fn 51) [.str t_2, .int .u64 (.ofNat n_1)] g_2 = FRes.ret (.str t_3) g_3)
    (H6 : AV.sound wd = true)
    (H7 : load1 g_1 p (0 + 4) = some (.int .u64 (.ofNat n_1)))
    (H8 : load1 (AHeap.room h 9) p (0 + 4) = some (.int .u64 (.ofNat n_1))) :
    RunF Try.prog Try.f39 none call [1, 1, 1, 1] (SSt.mk [(1, .ptr p 0), (3, .str s)] [] .none h) (.ret)
      (SSt.mk [(2, .str t_3)] [] .none g_3) :=
  sxF_run [2] (hs := [.v wd, .c (.str t_1) g_1, .c (.str t_2) g_2, .v (.int .u64 (.ofNat n_1)), .c (.str t_3) g_3]) (by kernel_rfl) <| .cons H1 <| .cons H2 <| .cons H3 <| .cons H4 <| .cons H5 <| .cons (by kernel_rfl : AV.sound (AV.str s) = true) <| .cons (by kernel_rfl : AV.str s = AV.str s) <| .cons (by kernel_rfl : AV.sound (AV.str s) = true) <| .cons (by kernel_rfl : AV.str s = AV.str s) <| .cons (by kernel_rfl : AV.sound (AV.ptr p (0 + 3)) = true) <| .cons (by kernel_rfl : AV.ptr p (0 + 3) = AV.ptr p (0 + 3)) <| .cons H6 <| .cons H1 <| .cons (by kernel_rfl : AV.sound (AV.ptr p (0 + 4)) = true) <| .cons (by kernel_rfl : AV.ptr p (0 + 4) = AV.ptr p (0 + 4)) <| .cons (by kernel_rfl : AV.sound (AV.ptr p (0 + 4)) = true) <| .cons (by kernel_rfl : AV.ptr p (0 + 4) = AV.ptr p (0 + 4)) <| .cons (by kernel_rfl : AV.sound (AV.ptr p (0 + 4)) = true) <| .cons (by kernel_rfl : AV.ptr p (0 + 4) = AV.ptr p (0 + 4)) <| .cons (by kernel_rfl : AV.sound (AV.int IntKind.u64 (Int.ofNat n_1)) = true) <| .cons H4 <| .cons (by kernel_rfl : AV.sound (AV.int IntKind.u64 (Int.ofNat n_1)) = true) <| .cons H7 <| .cons (by kernel_rfl : AV.sound (AV.int IntKind.u64 (Int.ofNat n_1)) = true) <| .cons H8 <| .cons (by kernel_rfl : AV.sound (AV.str t_3) = true) <| .cons (by kernel_rfl : AV.str t_3 = AV.str t_3) <| .nil
theorem ke2 (call : CallT → List AV → AHeap → FRes) (p q : Nat) (h g : AHeap)
    (H1 : RunF Try.prog Try.f41 none call [1, 1, 0, 1, 0] (SSt.mk [(5, .int .i64 (.ofNat 0)), (2, .ptr p 0), (3, .ptr q 0)] [] .none h) (.exit 0) (SSt.mk [(2, .ptr p 0), (3, .ptr q 0)] [] .none g)) :
    RunF Try.prog Try.f41 none call [1, 1, 0] (SSt.mk [(2, .ptr p 0), (3, .ptr q 0)] [] .none h) (.nrm)
      (SSt.mk [(2, .ptr p 0), (3, .ptr q 0)] [] .none g) :=
  sxF_run [2, 3] (hs := [Hint.loop (AEx.exit 0) (SSt.mk [(2, AV.ptr p 0), (3, AV.ptr q 0)] [] Rc.none g)]) (by kernel_rfl) <| .cons H1 <| .nil
theorem kez (call : CallT → List AV → AHeap → FRes) (p q : Nat) (h : AHeap)
    (H1 : load1 h p (0 + 2) = some .nilS) :
    RunF Try.prog Try.f41 none call [1, 1, 0, 1, 0, 0] (SSt.mk [(2, .ptr p 0), (3, .ptr q 0), (5, .int .i64 (.ofNat 0))] [] .none h) (.exit 0)
      (SSt.mk [(2, .ptr p 0), (3, .ptr q 0)] [] .none h) :=
  sxF_run [2, 3] (hs := [.v .nilS, .b false]) (by kernel_rfl) <| .cons H1 <| .cons (by kernel_rfl : ltI (Int.ofNat 0) (Int.ofNat 0) = false) <| .nil
theorem ke3 (call : CallT → List AV → AHeap → FRes) (p q : Nat) (h g : AHeap)
    (H1 : RunF Try.prog Try.f41 none call [1, 1, 1, 0, 1, 0] (SSt.mk [(6, .int .i64 (.ofNat 0)), (2, .ptr p 0), (3, .ptr q 0)] [] .none h) (.exit 2) (SSt.mk [(2, .ptr p 0), (3, .ptr q 0)] [] .none g)) :
    RunF Try.prog Try.f41 none call [1, 1, 1, 0] (SSt.mk [(2, .ptr p 0), (3, .ptr q 0)] [] .none h) (.nrm)
      (SSt.mk [(2, .ptr p 0), (3, .ptr q 0)] [] .none g) :=
  sxF_run [2, 3] (hs := [Hint.loop (AEx.exit 2) (SSt.mk [(2, AV.ptr p 0), (3, AV.ptr q 0)] [] Rc.none g)]) (by kernel_rfl) <| .cons H1 <| .nil
theorem kdz (call : CallT → List AV → AHeap → FRes) (p q : Nat) (h : AHeap)
    (H1 : load1 h p (0 + 3) = some .nilS) :
    RunF Try.prog Try.f41 none call [1, 1, 1, 0, 1, 0, 0] (SSt.mk [(2, .ptr p 0), (3, .ptr q 0), (6, .int .i64 (.ofNat 0))] [] .none h) (.exit 2)
      (SSt.mk [(2, .ptr p 0), (3, .ptr q 0)] [] .none h) :=
  sxF_run [2, 3] (hs := [.v .nilS, .b false]) (by kernel_rfl) <| .cons H1 <| .cons (by kernel_rfl : ltI (Int.ofNat 0) (Int.ofNat 0) = false) <| .nil
theorem ke4 (call : CallT → List AV → AHeap → FRes) (h : AHeap) :
    RunF Try.prog Try.f41 none call [1, 1, 1, 1] (SSt.mk [] [] .none h) (.ret)
      (SSt.mk [(4, .bool true)] [] .none h) :=
  sxF_run [4] (hs := []) (by kernel_rfl) <| .nil
/-! ### What was read whole -/
theorem md_read {k : Nat} {a b c r : List UInt8} (hk : k < 18446744073709551616) (ha : a.length < 18446744073709551616) (hb : b.length < 18446744073709551616) (hc : c.length < 18446744073709551616) :
    mdA (numL k ++ (textL a ++ (textL b ++ (textL c ++ r)))) = k ∧ mdT1 (numL k ++ (textL a ++ (textL b ++ (textL c ++ r)))) = a ∧ mdT2 (numL k ++ (textL a ++ (textL b ++ (textL c ++ r)))) = b ∧ mdT3 (numL k ++ (textL a ++ (textL b ++ (textL c ++ r)))) = c ∧ mdS4 (numL k ++ (textL a ++ (textL b ++ (textL c ++ r)))) = some r := by
  have e0 := numS_num k (textL a ++ (textL b ++ (textL c ++ r))) hk
  have e1 := textS_text a (textL b ++ (textL c ++ r)) ha
  have e2 := textS_text b (textL c ++ r) hb
  have e3 := textS_text c r hc
  simp only [mdA, mdT1, mdT2, mdT3, mdS4, mdS3, mdS2, mdS1, e0, e1, e2, e3, and_self]
theorem txF_3 (a b c : List UInt8) : txF a b c 3 0 = textL a ++ (textL b ++ textL c) := by
  simp [txF, sel3]
theorem readsT_mk : ∀ (ps : List (List UInt8)) (r : List UInt8), (∀ x ∈ ps, x.length < 18446744073709551616) → ReadsT ps.length (some (ps.flatMap textL ++ r)) ps (some r)
  | [], r, hv => .nil _
  | x :: ps, r, hv => by
    have e := textS_text x (ps.flatMap textL ++ r) (hv x (by simp))
    rw [List.flatMap_cons, List.append_assoc, List.length_cons]
    have h := readsT_mk ps r fun y hy => hv y (by simp [hy])
    have q := ReadsT.cons (n := ps.length) (s := textL x ++ (ps.flatMap textL ++ r)) (l := ps) (st := some r) (by rw [e]; exact h)
    rw [e] at q
    exact q
/-- A response's bytes. -/
def ansB (cd : Nat) (t : List UInt8) (ps : List (List UInt8)) (dt : List UInt8) (nm : Nat) : List UInt8 := numL cd ++ (textL t ++ (numL ps.length ++ (ps.flatMap textL ++ (textL dt ++ numL nm))))
theorem ans_read (cd : Nat) (t : List UInt8) (ps : List (List UInt8)) (dt : List UInt8) (nm : Nat) (r : List UInt8) (h1 : cd < 18446744073709551616) (h2 : t.length < 18446744073709551616) (h3 : ps.length < 18446744073709551616) (h4 : ∀ x ∈ ps, x.length < 18446744073709551616) (h5 : dt.length < 18446744073709551616) (h6 : nm < 18446744073709551616) :
    anCode (ansB cd t ps dt nm ++ r) = cd ∧ anText (ansB cd t ps dt nm ++ r) = t ∧ ReadsT (anN (ansB cd t ps dt nm ++ r)) (anS3 (ansB cd t ps dt nm ++ r)) ps (some (textL dt ++ (numL nm ++ r))) ∧ textS (some (textL dt ++ (numL nm ++ r))) = (dt, some (numL nm ++ r)) ∧ numS (some (numL nm ++ r)) = (nm, some r) := by
  have e : ansB cd t ps dt nm ++ r = numL cd ++ (textL t ++ (numL ps.length ++ (ps.flatMap textL ++ (textL dt ++ (numL nm ++ r))))) := by simp only [ansB, List.append_assoc]
  rw [e]
  have e0 := numS_num cd (textL t ++ (numL ps.length ++ (ps.flatMap textL ++ (textL dt ++ (numL nm ++ r))))) h1
  have e1 := textS_text t (numL ps.length ++ (ps.flatMap textL ++ (textL dt ++ (numL nm ++ r)))) h2
  have e2 := numS_num ps.length (ps.flatMap textL ++ (textL dt ++ (numL nm ++ r))) h3
  refine ⟨by simp only [anCode, e0], by simp only [anText, e0, e1], ?_, textS_text dt _ h5, numS_num nm r h6⟩
  simp only [anN, anS3, anS2, e0, e1, e2]
  exact readsT_mk ps _ h4
end Go.Proofs.Wire

namespace Go.Proofs.Wire
open Go AEv Go.Proofs Go.Proofs.Enc
set_option maxRecDepth 100000
set_option maxHeartbeats 1000000

/-! ### msg.Answer -/
theorem RowK.rowIn {B : Nat} {h : AHeap} {v : AV} {l : List Dg} (ho : RowK encD 3 35 B h v l) : RowIn h v l := by
  rcases ho with ⟨rfl, e⟩ | ⟨P, c, h1, h2, h3, h4, h5⟩
  · exact .inl ⟨rfl, e⟩
  · refine .inr ⟨P, 0, _, h1, h5, fun h' e => ?_⟩
    have := row_cut (h := h') (rest := []) (by rw [List.append_nil]; exact e.trans h3) (o := 0) (len := l.length) (by omega)
    rw [List.drop_zero, List.take_length, Nat.zero_mul] at this
    rw [h1]
    cases c with
    | exact k => simp only [srcCells, this]
    | opn k => simp only [srcCells, this]
    | dead => exact absurd rfl h2.2
theorem flat_le {ps : List (List UInt8)} {M : Nat} (h : ∀ x ∈ ps, x.length ≤ M) : (ps.flatMap textL).length ≤ ps.length * (M + 9) := by
  induction ps with
  | nil => simp
  | cons x l ih =>
    have h1 := textL_len x
    have h2 := h x (by simp)
    have := ih fun y hy => h y (by simp [hy])
    rw [List.flatMap_cons, List.length_append, List.length_cons, Nat.add_mul]; omega
theorem anl_loop (m p b1 : Nat) (k1 : Cap) (ps : List (List UInt8)) (hpb : ps.length ≤ 10000) (hpl : ∀ x ∈ ps, x.length ≤ 1000) : ∀ (k i : Nat) (s : List UInt8) (h : AHeap), ps.length - i = k → i ≤ ps.length → s.length ≤ 1000000 + i * 1009 → b1 < h.n → (∀ i (hi : i < ps.length), load1 h b1 (0 + i * 1) = some (.str ps[i])) →
    ∃ h', Ext h.n h h' ∧ LoopF Try.prog Try.f39 none (C (m + 5)) [1, 1, 1, 0, 1, 0] (k + 1) ⟨[(1, .ptr p 0), (3, .str s), (27, .slice b1 0 ps.length k1), (28, .int .i64 (Int.ofNat ps.length)), (29, .int .i64 (Int.ofNat i))], [], .none, h⟩ (.exit 0) ⟨[(1, .ptr p 0), (3, .str (s ++ (ps.drop i).flatMap textL))], [], .none, h'⟩
  | 0, i, s, h, hk, hi, hs, hb, hl => by
    obtain rfl : i = ps.length := by omega
    have hd : ps.drop ps.length = [] := List.drop_eq_nil_of_le (by omega)
    rw [hd]
    exact ⟨h, Ext.refl _ _, .exit (RunP.post (anl_2 _ _ _ _ _ _ _ _ (lt_f (by omega))) ⟨rfl, by simp [lk], trivial⟩) (by simp)⟩
  | k + 1, i, s, h, hk, hi, hs, hb, hl => by
    have hii : i < ps.length := by omega
    have hx := hpl ps[i] (List.getElem_mem hii)
    have ht := textL_len ps[i]
    rw [List.drop_eq_getElem_cons hii, List.flatMap_cons]
    obtain ⟨g, c, x⟩ := puttext_c m s ps[i] h (by omega) (by omega)
    obtain ⟨h', y, l⟩ := anl_loop m p b1 k1 ps hpb hpl k (i + 1) (s ++ textL ps[i]) g (by omega) (by omega) (by rw [List.length_append]; omega) (Nat.lt_of_lt_of_le hb x.n) (fun j hj => by have := hl j hj; simp only [load1] at this ⊢; rw [x.get b1 hb]; exact this)
    rw [List.append_assoc] at l
    exact ⟨h', x.trans x.n y, .step (anl_1 _ _ _ _ _ _ _ _ _ _ _ _ (lt_t (by omega)) (by show (_ : Nat) ≤ _; omega) (hl i hii) (c) (add_n (by omega))) l⟩
theorem answer_c (m B1 B2 : Nat) (cd nm : Nat) (t : List UInt8) (ps : List (List UInt8)) (l : List Dg) (w d : AV) (h : AHeap) (hcd : cd ≤ 14) (hnm : nm < 18446744073709551616) (ht : t.length ≤ 100000) (h1 : RowK encS 1 9 B1 h w ps) (h2 : RowK encD 3 35 B2 h d l) (hpb : ps.length ≤ 10000) (hpl : ∀ x ∈ ps, x.length ≤ 1000) (hlb : l.length < 80000) :
    ∃ h', C (m + 7) (.fn 39) [.agg [.int .i64 (Int.ofNat cd), .str t, w, d, .int .u64 (Int.ofNat nm)]] h = .ret (.str (ansB cd t ps (encT (sortedL l)) nm)) h' ∧ Ext h.n h h' := by
  obtain ⟨H, hH⟩ : ∃ H, H = h.push (.cells [.int .i64 (Int.ofNat cd), .str t, w, d, .int .u64 (Int.ofNat nm)] 54 .own 0 0) := ⟨_, rfl⟩
  have xH : Ext h.n h H := by rw [hH]; exact exA
  have nH : H.n = h.n + 1 := by rw [hH]; rfl
  have gp : H.get h.n = some (.cells [.int .i64 (Int.ofNat cd), .str t, w, d, .int .u64 (Int.ofNat nm)] 54 .own 0 0) := by rw [hH]; exact gtop rfl
  have s0 : RunF Try.prog Try.f39 none (C (m + 6)) [0] ⟨[(0, .agg [.int .i64 (Int.ofNat cd), .str t, w, d, .int .u64 (Int.ofNat nm)])], [], .none, h⟩ .nrm ⟨[(1, .ptr h.n 0)], [], .none, H⟩ := by
    rw [hH]
    rcases rowK_shape h1 with rfl | ⟨b1, n1, k1, rfl⟩ <;> rcases rowK_shape h2 with rfl | ⟨b2, n2, k2, rfl⟩
    · exact an0nn (C (m + 6)) _ _ t h
    · by_cases hb : b2 < 0
      · omega
      · rcases h2 with ⟨e, _⟩ | ⟨P, c, e, _⟩
        · cases e
        · cases e; exact an0ns (C (m + 6)) _ _ t b2 l.length k2 h
    · rcases h1 with ⟨e, _⟩ | ⟨P, c, e, _⟩
      · cases e
      · cases e; exact an0sn (C (m + 6)) _ _ t b1 ps.length k1 h
    · rcases h1 with ⟨e, _⟩ | ⟨P, c, e, _⟩
      · cases e
      · cases e
        rcases h2 with ⟨e, _⟩ | ⟨P, c, e, _⟩
        · cases e
        · cases e; exact an0ss (C (m + 6)) _ _ t b1 ps.length k1 b2 l.length k2 h
  have s1 : RunF Try.prog Try.f39 none (C (m + 6)) [1, 0] ⟨[(1, .ptr h.n 0)], [], .none, H⟩ .nrm ⟨[(1, .ptr h.n 0)], [], .none, H⟩ :=
    an1_3 (C (m + 6)) h.n (Int.ofNat cd) H (ld1 gp rfl) (lt_f (by omega)) (lt_f (by omega))
  have x8 : Ext H.n H (H.room 13) := Ext.roomR (Ext.refl _ _)
  have cvc : ∀ g : AHeap, evConvert Try.prog 29 52 (.int .i64 (Int.ofNat cd)) g = .val (.int .u64 (Int.ofNat cd)) g := fun g => conv_int (ka := .i64) (by kernel_rfl) u64t (wrap_u64 cd (by omega))
  obtain ⟨g1, c1, x1⟩ := putnum_c (m + 2) cd [] (H.room 13) (by omega) (by simp)
  rw [List.nil_append] at c1
  have l1 := numL_len cd
  have l2 := textL_len t
  have l3 := numL_len ps.length
  obtain ⟨g2, c2, x2⟩ := puttext_c (m + 1) (numL cd) t g1 (by omega) (by omega)
  obtain ⟨g3, c3, x3⟩ := putnum_c (m + 2) ps.length (numL cd ++ textL t) g2 (by omega) (by rw [List.length_append]; omega)
  have y1 : Ext H.n H g1 := x8.trans x8.n x1
  have y2 : Ext H.n H g2 := y1.trans y1.n x2
  have y3 : Ext H.n H g3 := y2.trans y2.n x3
  have gp1 := (y1.get h.n (by omega)).trans gp
  have gp2 := (y2.get h.n (by omega)).trans gp
  have gp3 := (y3.get h.n (by omega)).trans gp
  have s2 : RunF Try.prog Try.f39 none (C (m + 6)) [1, 1, 0] ⟨[(1, .ptr h.n 0)], [], .none, H⟩ .nrm ⟨[(1, .ptr h.n 0), (3, .str (numL cd ++ textL t ++ numL ps.length))], [], .none, g3⟩ := by
    rcases h1 with ⟨rfl, rfl⟩ | ⟨P, c, rfl, _⟩
    · exact (an2n _ _ _ _ _ _ _ _ _ _ _ _ (ld1 (groom gp) rfl) (cvc _) (c1) (ld1 gp1 rfl) (c2) (ld1 gp2 rfl) (c3) (ld1 (groom gp) rfl) (ld1 gp1 rfl) (ld1 (groom gp) rfl))
    · exact (an2s _ _ _ _ _ _ _ _ _ _ _ _ _ _ _ _ (ld1 (groom gp) rfl) (cvc _) (c1) (ld1 gp1 rfl) (c2) (ld1 gp2 rfl) (conv_u64 _ (by omega) g2) (c3) (ld1 (groom gp) rfl) (ld1 gp1 rfl) (ld1 (groom gp) rfl) (conv_u64 _ (by omega) _) (conv_u64 _ (by omega) _))
  obtain ⟨S, hS⟩ : ∃ S, S = numL cd ++ textL t ++ numL ps.length := ⟨_, rfl⟩
  have hSl : S.length ≤ 1000000 := by rw [hS, List.length_append, List.length_append]; omega
  rw [← hS] at s2
  have z3 : Ext h.n h g3 := xH.trans xH.n y3
  have lp : ∃ g4, Ext g3.n g3 g4 ∧ RunF Try.prog Try.f39 none (C (m + 6)) [1, 1, 1, 0] ⟨[(1, .ptr h.n 0), (3, .str S)], [], .none, g3⟩ .nrm ⟨[(1, .ptr h.n 0), (3, .str (S ++ ps.flatMap textL))], [], .none, g4⟩ := by
    rcases h1 with ⟨rfl, rfl⟩ | ⟨P, c, rfl, _, g, _, n⟩
    · have lp := LoopF.run (p := [1, 1, 1, 0, 1, 0]) (by kernel_rfl) (LoopF.exit (n := 0) (anlz (C (m + 6)) h.n S g3) (by simp)) (by omega)
      refine ⟨g3, Ext.refl _ _, ?_⟩
      rw [show S ++ ([] : List (List UInt8)).flatMap textL = S by simp]
      exact an3n (C (m + 6)) h.n S S g3 g3 (ld1 gp3 rfl) (RunP.pre lp ⟨rfl, rfl, rfl, rfl, rfl, trivial⟩ rfl rfl rfl)
    · obtain ⟨g4, x4, lp⟩ := anl_loop (m + 1) h.n P c ps hpb hpl ps.length 0 S g3 rfl (by omega) (by omega) (by have := z3.n; omega) (fun i hi => str_at ((z3.get P n).trans g) hi)
      rw [List.drop_zero] at lp
      exact ⟨g4, x4, an3s (C (m + 6)) h.n P ps.length c S _ g3 g4 (ld1 gp3 rfl) (RunP.pre (LoopF.run (p := [1, 1, 1, 0, 1, 0]) (by kernel_rfl) lp (by omega)) ⟨rfl, rfl, rfl, rfl, rfl, trivial⟩ rfl rfl rfl)⟩
  obtain ⟨g4, x4, s3⟩ := lp
  have y4 : Ext H.n H g4 := y3.trans y3.n x4
  have z4 : Ext h.n h g4 := xH.trans xH.n y4
  have gp4 := (y4.get h.n (by omega)).trans gp
  have hfl := flat_le hpl
  have hsl := sortedL_len l
  have hel := encT_len (sortedL l) (fun d hd => (mem_sortedL.1 hd).2)
  have x9 : Ext g4.n g4 (g4.room 9) := Ext.roomR (Ext.refl _ _)
  have z4' : Ext h.n h (g4.room 9) := z4.trans z4.n x9
  obtain ⟨g5, c5, x5⟩ := dencode_c m d l (g4.room 9) (h2.rowIn.mono z4' (Nat.le_refl _)) (by omega)
  have tl5 := textL_len (encT (sortedL l))
  have hmul : ps.length * (1000 + 9) ≤ 10000 * 1009 := Nat.mul_le_mul hpb (Nat.le_refl _)
  obtain ⟨g6, c6, x6⟩ := puttext_c (m + 1) (S ++ ps.flatMap textL) (encT (sortedL l)) g5 (by rw [List.length_append]; omega) (by omega)
  obtain ⟨g7, c7, x7⟩ := putnum_c (m + 2) nm (S ++ ps.flatMap textL ++ textL (encT (sortedL l))) g6 hnm (by rw [List.length_append, List.length_append]; omega)
  have y5 : Ext H.n H g5 := (y4.trans y4.n x9).trans (Nat.le_trans y4.n x9.n) x5
  have y6 : Ext H.n H g6 := y5.trans y5.n x6
  have gp5 := (y5.get h.n (by omega)).trans gp
  have gp6 := (y6.get h.n (by omega)).trans gp
  have hsd : AV.sound d = true := by rcases rowK_shape h2 with rfl | ⟨_, _, _, rfl⟩ <;> rfl
  have s4 := an4 (C (m + 6)) h.n (S ++ ps.flatMap textL) d g4 _ g5 _ g6 nm _ g7 (ld1 (groom gp4) rfl) c5 c6 (ld1 gp6 rfl) c7 hsd (ld1 gp5 rfl) (ld1 (groom gp4) rfl)
  have er : S ++ ps.flatMap textL ++ textL (encT (sortedL l)) ++ numL nm = ansB cd t ps (encT (sortedL l)) nm := by rw [hS]; simp only [ansB, List.append_assoc]
  rw [er] at s4
  refine ⟨g7, fn_runF (intr := Ii) (n := m + 6) (args := [.agg [.int .i64 (Int.ofNat cd), .str t, w, d, .int .u64 (Int.ofNat nm)]]) Try.func39 (by kernel_rfl) rfl (by kernel_rfl)
    (RunF.seq (p := []) (by kernel_rfl) s0 (RunF.seq (p := [1]) (by kernel_rfl) s1 (RunF.seq (p := [1, 1]) (by kernel_rfl) s2 (RunF.seq (p := [1, 1, 1]) (by kernel_rfl) s3 s4)))) (.inl rfl) (by kernel_rfl), xH.trans xH.n (y6.trans y6.n x7)⟩
end Go.Proofs.Wire

namespace Go.Proofs.Wire
open Go AEv Go.Proofs Go.Proofs.Enc
set_option maxRecDepth 100000
set_option maxHeartbeats 1000000

/-! ### MsgOnce -/
end Go.Proofs.Wire
