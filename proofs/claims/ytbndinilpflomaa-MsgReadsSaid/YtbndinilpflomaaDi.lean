/-
  PROVED HERE: contracts of functions (Di). No condition beside each statement's own.
-/
import Derived.Test.YtbndinilpflomaaDh
set_option linter.unusedVariables false
set_option linter.unusedSimpArgs false
namespace Go.Proofs.Wire
open Go AEv Go.Proofs Go.Proofs.Enc
set_option maxRecDepth 100000
set_option maxHeartbeats 1000000

/-! ### msg.Answered, joined; the document's -/
theorem load5 {h : AHeap} {b t : Nat} {x : List AV} (hx : x.length = 5) (hg : h.get b = some (.cells x t .own 0 0)) : AEv.loadCells h b 0 5 = some x := by
  have := load_row (xs := x) (rest := []) (by simpa using hg)
  rwa [hx] at this
abbrev rsp0 : List AV := [.int .i64 (Int.ofNat 0), .str [], .nilS, .nilS, .int .u64 (Int.ofNat 0)]
theorem rowK_shape {D : Type} {enc : D → List AV} {w : Nat} {el : TypeId} {B : Nat} {h : AHeap} {v : AV} {ds : List D} (ho : RowK enc w el B h v ds) : v = .nilS ∨ ∃ p n c, v = .slice p 0 n c := by
  rcases ho with ⟨rfl, _⟩ | ⟨p, c, rfl, _⟩
  · exact .inl rfl
  · exact .inr ⟨_, _, _, rfl⟩
theorem decQ_bad {B : Nat} {h : AHeap} {s : List UInt8} {w : AV} {e : Nat} (q : DecQ B h s w e) : (e = 0 ∧ ∃ l, Good s l ∧ RowK encD 3 35 B h w l ∧ l.length < 80000) ∨ (¬ e = 0 ∧ (∀ l, ¬ Good s l)) := by
  rcases q with ⟨l, g, o, rfl, hl⟩ | ⟨n, rfl, rfl⟩
  · refine .inl ⟨rfl, l, g, ?_, hl⟩
    rcases o with o | ⟨P, h1, h2, h3, h4, h5⟩
    · exact .inl o
    · exact .inr ⟨P, _, h1, h2, h3, h4, h5⟩
  · exact .inr ⟨by omega, n⟩
theorem RowK.le {D : Type} {enc : D → List AV} {w : Nat} {el : TypeId} {B B' : Nat} {h : AHeap} {v : AV} {ds : List D} (ho : RowK enc w el B' h v ds) (hB : B ≤ B') : RowK enc w el B h v ds := by
  rcases ho with ho | ⟨p, c, h1, h2, h3, h4, h5⟩
  · exact .inl ho
  · exact .inr ⟨p, c, h1, h2, h3, Nat.le_trans hB h4, h5⟩
theorem Rd.setCells {h : AHeap} {p D : Nat} {st : RdS} {cs : List AV} {el : Nat} {o : Option AObj} (hr : Rd h p st) (hD : h.get D = some (.cells cs el .own 0 0)) (hp : ¬ p = D) : Rd (h.set D o) p st := by
  cases st with
  | none => obtain ⟨h1, h2⟩ := hr; exact ⟨by simpa using h1, gother hp h2⟩
  | some s =>
    obtain ⟨h1, h2, v, h3, h4⟩ := hr
    refine ⟨by simpa using h1, h2, v, gother hp h3, ?_⟩
    rcases h4 with h4 | ⟨b, pre, q1, q2, q3, q4⟩
    · exact .inl h4
    · exact .inr ⟨b, pre, q1, by simpa using q2, q3, gother (fun e => by subst e; rw [hD] at q4; cases q4) q4⟩
theorem answered_c (m : Nat) (s : List UInt8) (h : AHeap) (hs : s.length ≤ 60000) : ∃ vs e h', C (m + 8) (.fn 35) [.str s] h = .ret (.tup [.agg vs, .int .i64 (Int.ofNat e)]) h' ∧ Ext h.n h h' ∧ RspQ h.n h' s vs e := by
  obtain ⟨H, hH⟩ : ∃ H, H = h.push (.cells rsp0 54 .own 0 0) := ⟨_, rfl⟩
  have xH : Ext h.n h H := by rw [hH]; exact exA
  have nH : H.n = h.n + 1 := by rw [hH]; rfl
  have aH : H.get h.n = some (.cells rsp0 54 .own 0 0) := by rw [hH]; exact gtop rfl
  obtain ⟨p, g, c1, x1, hp, r1⟩ := newr_c (m + 6) s H (by omega)
  have ag : g.get h.n = some (.cells rsp0 54 .own 0 0) := (x1.get h.n (by omega)).trans aH
  have n1 := x1.n
  obtain ⟨g1, c2, x2, r2⟩ := num_c (m + 2) p (some s) g r1
  obtain ⟨g2, c3, x3, r3⟩ := text_c (m + 1) p _ g1 r2
  have n2 := x2.n
  have n3 := x3.n
  have ow2 : OwnK p g g2 := (OwnK.ofX x2).trans (OwnK.ofX x3)
  have hpa : h.n ≠ p := by omega
  have a2v := ow2.2 h.n _ _ (by omega) hpa ag
  obtain ⟨cd, hcd⟩ : ∃ cd, cd = anCode s := ⟨_, rfl⟩
  rw [show (numS (some s)).1 = cd by rw [hcd]; rfl] at c2
  rw [show (textS (numS (some s)).2).1 = anText s from rfl] at c3
  rw [show (textS (numS (some s)).2).2 = anS2 s from rfl] at r3
  obtain ⟨g3, hg3⟩ : ∃ g3, g3 = (g2.push (.cells [.int .u64 (Int.ofNat 0), .str [], .int .u64 (Int.ofNat 0)] 94 .own 0 0)).set g2.n (some (.cells [.int .u64 (Int.ofNat cd), .str (anText s), .int .u64 (Int.ofNat 0)] 94 .own 0 0)) := ⟨_, rfl⟩
  have st3 : AEv.storeCells (g2.push (.cells [.int .u64 (Int.ofNat 0), .str [], .int .u64 (Int.ofNat 0)] 94 .own 0 0)) g2.n 0 [.int .u64 (Int.ofNat cd), .str (anText s), .int .u64 (Int.ofNat 0)] = some g3 := by rw [hg3]; exact stc (gtop rfl) rfl rfl
  have x3' : Ext g2.n g2 g3 := by rw [hg3]; exact exA
  have n3' : g3.n = g2.n + 1 := by rw [hg3]; rfl
  have q3 : g3.get g2.n = some (.cells [.int .u64 (Int.ofNat cd), .str (anText s), .int .u64 (Int.ofNat 0)] 94 .own 0 0) := by rw [hg3]; exact gsame rfl
  have a3v := (x3'.get h.n (by omega)).trans a2v
  have hpq : g2.n ≠ p := by have := r1.lt; omega
  obtain ⟨g4, c4, x4, r4⟩ := num_c (m + 2) p (anS2 s) g3 (r3.mono x3' (Nat.le_refl _))
  have n4 := x4.n
  rw [show (numS (anS2 s)).1 = anN s from rfl] at c4
  rw [show (numS (anS2 s)).2 = anS3 s from rfl] at r4
  have hN : anN s < 18446744073709551616 := numS_lt _
  have hms : msr (anS3 s) ≤ s.length + 2 := by
    have h1 := numS_len (some s)
    have h2 := textS_len (numS (some s)).2
    have h3 := numS_len (anS2 s)
    have h4 : (left (anS2 s)).length ≤ (left (numS (some s)).2).length := h2.1
    have h5 : (left (some s)).length = s.length := rfl
    cases hx : anS3 s with
    | none => show 1 ≤ _; omega
    | some v =>
      have h6 : (left (anS3 s)).length ≤ (left (anS2 s)).length := h3
      rw [hx] at h6
      have : v.length ≤ (left (anS2 s)).length := h6
      show v.length + 2 ≤ _; omega
  obtain ⟨ps, st4, w, g5, z1, z2, z3, z4, z5, z6⟩ := al_loop m p h.n g2.n h.n (s.length + 2) (anN s) (anS3 s) .nilS [] g4 hms (by simp; omega) hN r4 (.inl ⟨rfl, rfl⟩) (by omega) (by omega)
  rw [List.nil_append] at z3
  have hpl := readsT_len z1
  have loop := LoopF.run (p := [1, 1, 1, 1, 0, 1, 0]) (by kernel_rfl) z6 (by omega)
  have ow4 : OwnK p g3 g5 := (OwnK.ofX x4).trans z5
  have n5 := z5.1
  have a5v := ow4.2 h.n _ _ (by omega) hpa a3v
  have q5 := ow4.2 g2.n _ _ (by omega) hpq q3
  obtain ⟨cs5, hcs5⟩ := z2.cells
  obtain ⟨g6, c6, x6, r6⟩ := text_c (m + 1) p st4 g5 z2
  have n6 := x6.n
  have o6 := (z3.monoX hcs5 x6 (Nat.le_refl _))
  have a6v := (x6.get h.n (by omega) hpa).trans a5v
  have q6 := (x6.get g2.n (by omega) hpq).trans q5
  have htl : (textS st4).1.length ≤ 70000 := by
    have h1 := (textS_len st4).2
    have h2 : (left st4).length ≤ 60000 := by
      have key : ∀ {n : Nat} {a b : RdS} {l : List (List UInt8)}, ReadsT n a l b → (left b).length ≤ (left a).length := by
        intro n a b l hh
        induction hh with
        | nil st => exact Nat.le_refl _
        | bad n => exact Nat.le_refl _
        | cons hh ih => rename_i n u l st; have := (textS_len (some u)).1; omega
      have h3 := key z1
      have h4 := numS_len (some s)
      have h5 := (textS_len (numS (some s)).2).1
      have h6 : (left (anS3 s)).length ≤ (left (anS2 s)).length := numS_len (anS2 s)
      have h7 : (left (anS2 s)).length ≤ (left (numS (some s)).2).length := h5
      have h8 : (left (some s)).length = s.length := rfl
      omega
    omega
  obtain ⟨wd, e, g7, c7, x7, d7⟩ := decode_c m (textS st4).1 g6 htl
  have n7 := x7.n
  have o7 := o6.mono x7 (Nat.le_refl _)
  have a7v := (x7.get h.n (by omega)).trans a6v
  have q7 := (x7.get g2.n (by omega)).trans q6
  have r7 := r6.mono x7 (Nat.le_refl _)
  obtain ⟨cs7, hcs7⟩ := r7.cells
  obtain ⟨g8, c8, x8, r8⟩ := num_c (m + 2) p _ g7 r7
  have n8 := x8.n
  have o8 := o7.monoX hcs7 x8 (Nat.le_refl _)
  have a8v := (x8.get h.n (by omega) hpa).trans a7v
  have q8 := (x8.get g2.n (by omega) hpq).trans q7
  obtain ⟨nm, hnm⟩ : ∃ nm, nm = (numS (textS st4).2).1 := ⟨_, rfl⟩
  rw [← hnm] at c8
  obtain ⟨g9, hg9⟩ : ∃ g9, g9 = g8.set g2.n (some (.cells [.int .u64 (Int.ofNat cd), .str (anText s), .int .u64 (Int.ofNat nm)] 94 .own 0 0)) := ⟨_, rfl⟩
  have st9 : AEv.storeCells g8 g2.n (0 + 2) [.int .u64 (Int.ofNat nm)] = some g9 := by rw [hg9]; exact stc q8 rfl rfl
  have n9 : g9.n = g8.n := by rw [hg9]; rfl
  have o9 : OutG encS 1 9 h.n g9 w ps := by rw [hg9]; exact o8.setOwn q8
  have a9v : g9.get h.n = some (.cells rsp0 54 .own 0 0) := by rw [hg9]; exact gother (by omega) a8v
  have q9 : g9.get g2.n = some (.cells [.int .u64 (Int.ofNat cd), .str (anText s), .int .u64 (Int.ofNat nm)] 94 .own 0 0) := by rw [hg9]; exact gsame rfl
  have r9 : Rd g9 p (numS (textS st4).2).2 := by rw [hg9]; exact r8.setCells q8 (fun e => hpq e.symm)
  have ce := end_c (m + 5) p _ g9 r9
  have hph : h.n ≤ p := by omega
  have y1 : Ext h.n h g := xH.trans xH.n x1
  have y2 := Ext.callX x2 y1.n hph y1
  have y3 := Ext.callX x3 y2.n hph y2
  have y4 := Ext.callR x3' y3.n y3
  have y5 := Ext.callX x4 y4.n hph y4
  have y6 := y5.trans (Nat.le_refl _) z4
  have y7 := Ext.callX x6 y6.n hph y6
  have y8 := Ext.callR x7 y7.n y7
  have y9 := Ext.callX x8 y8.n hph y8
  have x09 : Ext h.n h g9 := by rw [hg9]; exact Ext.setR (by omega) y9
  have s0 := a0 (C (m + 7)) s h
  rw [← hH] at s0
  have s1 := a1 (C (m + 7)) s h.n p H g c1
  have s2 := a2 (C (m + 7)) h.n p g cd g1 (anText s) g2 g3 c2 c3 st3
  have s3 := a3 (C (m + 7)) h.n p g2.n g3
  have s4 := a4 (C (m + 7)) h.n p g2.n w g3 g5 (anN s) g4 c4 (RunP.pre loop ⟨rfl, rfl, rfl, rfl, rfl, trivial⟩ rfl rfl rfl)
  have s5 := a5 (C (m + 7)) h.n p g2.n e w wd g5 g7 (textS st4).1 g6 c6 c7
  have s6 := a6 (C (m + 7)) h.n p g2.n e w wd g7 nm g8 g9 c8 st9
  have fin : ∀ {Γ : Env} {h' : AHeap} {v : AV}, RunF Try.prog Try.f35 none (C (m + 7)) [1, 1, 1, 1, 1, 1, 1] ⟨[(2, .ptr h.n 0), (4, .ptr p 0), (5, .ptr g2.n 0), (6, w), (8, wd), (9, .int .i64 (Int.ofNat e))], [], .none, g9⟩ .ret ⟨Γ, [], .none, h'⟩ → resS Try.prog (needFn Try.f35) Try.f35 Γ h' = some v → C (m + 8) (.fn 35) [.str s] h = .ret v h' := fun hr hres =>
    fn_runF (intr := Ii) (n := m + 7) (args := [.str s]) Try.func35 (by kernel_rfl) rfl (by kernel_rfl)
      (RunF.seq (p := []) (by kernel_rfl) s0 (RunF.seq (p := [1]) (by kernel_rfl) s1 (RunF.seq (p := [1, 1]) (by kernel_rfl) s2 (RunF.seq (p := [1, 1, 1]) (by kernel_rfl) s3 (RunF.seq (p := [1, 1, 1, 1]) (by kernel_rfl) s4 (RunF.seq (p := [1, 1, 1, 1, 1]) (by kernel_rfl) s5 (RunF.seq (p := [1, 1, 1, 1, 1, 1]) (by kernel_rfl) s6 hr))))))) (.inl rfl) hres
  have res : ∀ {Γ : Env} {vs : List AV} {e : Nat} {h' : AHeap}, lk 2 Γ = some (.ptr h.n 0) → lk 3 Γ = some (.int .i64 (Int.ofNat e)) → h'.get h.n = some (.cells vs 54 .own 0 0) → vs.length = 5 → resS Try.prog (needFn Try.f35) Try.f35 Γ h' = some (.tup [.agg vs, .int .i64 (Int.ofNat e)]) := fun {Γ vs e h'} e1 e2 hg hl =>
    resS_ct (t := 2) (u := 3) (by kernel_rfl) (by kernel_rfl) (by kernel_rfl) (by kernel_rfl) (by kernel_rfl : sizeT Try.prog 54 = some 5) e1 e2 (load5 hl hg)
  have sta : AEv.storeCells g9 h.n 0 rsp0 = some (g9.set h.n (some (.cells rsp0 54 .own 0 0))) := stc a9v rfl rfl
  have bad : ¬ anOK s st4 → RspQ h.n (g9.set h.n (some (.cells rsp0 54 .own 0 0))) s rsp0 4 := fun hb => ⟨ps, st4, z1, .inr ⟨hb, rfl, rfl⟩⟩
  have xbad : Ext h.n h (g9.set h.n (some (.cells rsp0 54 .own 0 0))) := Ext.setR (Nat.le_refl _) x09
  rcases decQ_bad d7 with ⟨rfl, l, hg, hwd, hl⟩ | ⟨he, hno⟩
  · by_cases hend : endS (numS (textS st4).2).2 = true
    · rw [hend] at ce
      have ld : load1 g9 g2.n (0 + 0) = some (.int .u64 (Int.ofNat cd)) := ld1 q9 rfl
      by_cases hc : cd ≤ 14
      · have hwd9 : RowK encD 3 35 h.n g9 wd l := by
          rw [hg9]
          exact ((hwd.monoX hcs7 x8 (Nat.le_refl _)).setOwn q8).le y7.n
        have o9' := o9.mono (B' := g9.n) (h' := g9.room 13) (Ext.roomR (Ext.refl _ _)) (Nat.le_refl _)
        obtain ⟨wp, ccl, hwp, hsh⟩ := clip_c (m + 6) h.n w ps (g9.room 13) o9'
        have s8 := a8_any m h.n g2.n w wp wd cd nm (anText s) g9 hsh (rowK_shape hwd9) hc q9 a9v ccl
        have s7 := a7_4 (C (m + 7)) h.n p g2.n 0 w wd g9 true g9 cd rfl ce rfl ld (lt_f (by omega))
        have a13 : (g9.room 13).get h.n = some (.cells rsp0 54 .own 0 0) := groom a9v
        refine ⟨_, 0, _, fin (RunF.seq (p := [1, 1, 1, 1, 1, 1, 1]) (by kernel_rfl) s7 s8) (res rfl rfl (gsame rfl) rfl), Ext.setR (Nat.le_refl _) (Ext.roomR x09), ps, st4, z1, .inl ⟨l, wp, wd, hg, hend, by rw [← hcd]; exact hc, rfl, by rw [hcd, hnm], hwp.setOwn a13, ?_, hl, by omega⟩⟩
        exact (hwd9.mono (B' := g9.n) (h' := g9.room 13) (Ext.roomR (Ext.refl _ _)) (Nat.le_refl _)).setOwn a13
      · have s7 := a7_3 (C (m + 7)) h.n p g2.n 0 w wd g9 true g9 cd _ rfl ce rfl ld (lt_t (by omega)) sta
        exact ⟨rsp0, 4, _, fin (RunF.seqx (p := [1, 1, 1, 1, 1, 1, 1]) (by kernel_rfl) s7 (by simp)) (res rfl rfl (gsame rfl) rfl), xbad, bad fun hb => hc (by rw [hcd]; exact hb.2.2)⟩
    · have hend' : endS (numS (textS st4).2).2 = false := by simpa using hend
      rw [hend'] at ce
      have s7 := a7_2 (C (m + 7)) h.n p g2.n 0 w wd g9 false g9 _ rfl ce rfl sta
      exact ⟨rsp0, 4, _, fin (RunF.seqx (p := [1, 1, 1, 1, 1, 1, 1]) (by kernel_rfl) s7 (by simp)) (res rfl rfl (gsame rfl) rfl), xbad, bad fun hb => hend hb.2.1⟩
  · have s7 := a7_1 (C (m + 7)) h.n p g2.n e w wd g9 _ (by rw [eqI_f he]; rfl) sta
    exact ⟨rsp0, 4, _, fin (RunF.seqx (p := [1, 1, 1, 1, 1, 1, 1]) (by kernel_rfl) s7 (by simp)) (res rfl rfl (gsame rfl) rfl), xbad, bad fun hb => by obtain ⟨l, hl⟩ := hb.1; exact hno l hl⟩

/-! ### the document's -/
theorem Rr.appG {D : Type} {enc : D → List AV} {w : Nat} {el : TypeId} {B p : Nat} {h h' : AHeap} {v : AV} {ds : List D} {st : RdS} (hr : Rr h p st) (ho : OutG enc w el B h v ds) (hn : h.n ≤ h'.n) (hk : ∀ c, c < h.n → (∀ n cp, v ≠ .slice c 0 n cp) → h'.get c = h.get c) : Rr h' p st := by
  obtain ⟨h1, h2, h3⟩ := hr
  exact ⟨by omega, h2, (hk p h1 (ho.ne h3 (.inl (by simp)))).trans h3⟩
theorem bl_loop (m p a q B N cd : Nat) (tx : List UInt8) (hN : N < 18446744073709551616) (hpq : p ≠ q) (hap : a ≠ p) (haq : a ≠ q) : ∀ (k i : Nat) (st : RdS) (w : AV) (ps : List (List UInt8)) (h : AHeap), msr st ≤ k → k + ps.length ≤ 90001 → i ≤ N → Rr h p st → OutG encS 1 9 B h w ps → h.get q = some (.cells [.int .i64 (Int.ofNat cd), .str tx, w, .nilS, .int .u64 (Int.ofNat 0)] 54 .own 0 0) → h.get a = some (.cells rsp0 54 .own 0 0) → q < h.n → a < h.n → B ≤ p → B ≤ q → B ≤ h.n →
    ∃ ps' st' w' h', ReadsT (N - i) st ps' st' ∧ Rr h' p st' ∧ OutG encS 1 9 B h' w' (ps ++ ps') ∧ h'.get q = some (.cells [.int .i64 (Int.ofNat cd), .str tx, w', .nilS, .int .u64 (Int.ofNat 0)] 54 .own 0 0) ∧ h'.get a = some (.cells rsp0 54 .own 0 0) ∧ Ext B h h' ∧ LoopF Try.prog Try.f36 none (C (m + 4)) [1, 1, 1, 1, 0, 1, 0] (k + 1) ⟨[(2, .ptr a 0), (4, .ptr p 0), (5, .ptr q 0), (6, .int .u64 (Int.ofNat N)), (7, .int .u64 (Int.ofNat i))], [], .none, h⟩ (.exit 0) ⟨[(2, .ptr a 0), (4, .ptr p 0), (5, .ptr q 0)], [], .none, h'⟩
  | 0, i, st, w, ps, h, hq, hds, hn, hr, ho, hgq, hga, hqn, han, hB, hBq, hBh => by have := msr_pos st; omega
  | k + 1, i, st, w, ps, h, hq, hds, hn, hr, ho, hgq, hga, hqn, han, hB, hBq, hBh => by
    by_cases h0 : i = N
    · subst h0
      exact ⟨[], st, w, h, by rw [Nat.sub_self]; exact .nil st, hr, by simpa using ho, hgq, hga, Ext.refl _ _, .exit (RunP.post (bl_3 _ _ _ _ _ _ (0) (0) (.dead) (.nilS) _ ((emptyHeap 0)) (lt_f (by omega))) ⟨rfl, rfl, rfl, trivial⟩) (by simp)⟩
    · obtain ⟨j, hj⟩ : ∃ j, N - i = j + 1 := ⟨N - i - 1, by omega⟩
      have hj' : N - (i + 1) = j := by omega
      rw [hj]
      have hok := rok_c (m + 3) p st h hr
      cases st with
      | none => exact ⟨[], none, w, h, .bad j, hr, by simpa using ho, hgq, hga, Ext.refl _ _, .exit (RunP.post (bl_2 _ _ _ _ _ _ (0) (0) (.dead) (.nilS) _ ((emptyHeap 0)) _ _ (lt_t (by omega)) (hok) (rfl)) ⟨rfl, rfl, rfl, trivial⟩) (by simp)⟩
      | some u =>
        obtain ⟨h1, h2, h3⟩ := hr
        have x0 : Ext h.n h (h.room 8) := Ext.roomR (Ext.refl _ _)
        have hr' : Rr (h.room 8) p (some u) := Rr.mono ⟨h1, h2, h3⟩ x0 (Nat.le_refl _)
        obtain ⟨g2, c1, x1, r1⟩ := rtext_c m p (some u) (h.room 8) hr'
        have nx := x1.n
        simp only [AHeap.n_room] at nx
        have o2 := (ho.mono x0 (Nat.le_refl _)).monoX hr'.2.2 x1 (Nat.le_refl _)
        have q2 : g2.get q = some (.cells [.int .i64 (Int.ofNat cd), .str tx, w, .nilS, .int .u64 (Int.ofNat 0)] 54 .own 0 0) := (x1.get q (by simp only [AHeap.n_room]; omega) (fun e => hpq e.symm)).trans hgq
        have a2v : g2.get a = some (.cells rsp0 54 .own 0 0) := (x1.get a (by simp only [AHeap.n_room]; omega) hap).trans hga
        obtain ⟨G, hG⟩ : ∃ G, G = g2.set (h.n + 4) (some (.cells (encS (textS (some u)).1) 9 .own 0 0)) := ⟨_, rfl⟩
        have nG : G.n = g2.n := by rw [hG]; rfl
        have oG : OutG encS 1 9 B G w ps := by
          rw [hG]
          rcases ho with ⟨rfl, e⟩ | ⟨P, rfl, k1, k2, k3, k4⟩
          · exact .inl ⟨rfl, e⟩
          · rcases o2 with ⟨e, _⟩ | ⟨P', e, j1, j2, j3, j4⟩
            · cases e
            · cases e
              exact .inr ⟨P, rfl, j1, gother (by omega) j2, j3, by simpa using j4⟩
        have qG : G.get q = some (.cells [.int .i64 (Int.ofNat cd), .str tx, w, .nilS, .int .u64 (Int.ofNat 0)] 54 .own 0 0) := by rw [hG]; exact gother (by omega) q2
        have aG : G.get a = some (.cells rsp0 54 .own 0 0) := by rw [hG]; exact gother (by omega) a2v
        have rG : Rr G p (textS (some u)).2 := by rw [hG]; exact r1.set (by omega)
        have sG : srcCells G 1 (.slice (h.n + 4) 0 1 (.exact 1)) = some ([(textS (some u)).1].length, rowL encS [(textS (some u)).1]) := by
          have : AEv.loadCells G (h.n + 4) 0 (1 * 1) = some (encS (textS (some u)).1) := by rw [hG]; exact ldc (gsame rfl) rfl
          simp only [srcCells, this]; rfl
        obtain ⟨w2, g4, a4, o5, x5, n5, k5⟩ := appG strRow (es := [(textS (some u)).1]) oG (by omega) sG (by simp; omega)
        obtain ⟨P, nP, cP, hw2⟩ : ∃ P nP cP, w2 = .slice P 0 nP cP := by
          rcases o5 with ⟨_, e⟩ | ⟨P, e, _⟩
          · simp at e
          · exact ⟨P, _, _, e⟩
        subst hw2
        have q4 := (k5 q (by omega) (oG.ne qG (.inl (by simp)))).trans qG
        have a4v := (k5 a (by omega) (oG.ne aG (.inl (by simp)))).trans aG
        have r4 := rG.appG oG n5 k5
        obtain ⟨g5, hg5⟩ : ∃ g5, g5 = g4.set q (some (.cells [.int .i64 (Int.ofNat cd), .str tx, .slice P 0 nP cP, .nilS, .int .u64 (Int.ofNat 0)] 54 .own 0 0)) := ⟨_, rfl⟩
        have st5 : AEv.storeCells g4 q (0 + 2) [.slice P 0 nP cP] = some g5 := by rw [hg5]; exact stc q4 rfl rfl
        have n5' : g5.n = g4.n := by rw [hg5]; rfl
        have hlt := textS_msr u
        have lw1 : load1 (h.room 8) q (0 + 2) = some w := ld1 (groom hgq) rfl
        have lw2 : load1 G q (0 + 2) = some w := ld1 qG rfl
        have st1 : RunF Try.prog Try.f36 none (C (m + 4)) [1, 1, 1, 1, 0, 1, 0, 0] ⟨[(2, .ptr a 0), (4, .ptr p 0), (5, .ptr q 0), (6, .int .u64 (Int.ofNat N)), (7, .int .u64 (Int.ofNat i))], [], .none, h⟩ .nrm ⟨[(2, .ptr a 0), (4, .ptr p 0), (5, .ptr q 0), (6, .int .u64 (Int.ofNat N)), (7, .int .u64 (Int.ofNat (i + 1)))], [], .none, g5⟩ := by
          rw [hG] at a4 lw2
          exact (bl_1 _ _ _ _ _ _ _ _ _ _ _ _ _ _ _ _ _ _ (lt_t (by omega)) (hok) (rfl) (lw1) (c1) (a4) (st5) (ho.sound) (lw2) (addU (by omega)))
        obtain ⟨ps', st', w', h', z1, z2, z3, z4, z5, z6, z7⟩ := bl_loop m p a q B N cd tx hN hpq hap haq k (i + 1) (textS (some u)).2 (.slice P 0 nP cP) (ps ++ [(textS (some u)).1]) g5 (by omega) (by simp; omega) (by omega) (by rw [hg5]; exact r4.set hpq) (by rw [hg5]; exact o5.setOwn q4) (by rw [hg5]; exact gsame rfl) (by rw [hg5]; exact gother haq a4v) (by omega) (by omega) hB hBq (by omega)
        rw [hj'] at z1
        have xe : Ext B h g5 := by
          rw [hg5]
          have e1 : Ext B h g2 := ⟨by omega, fun b hb => (x1.get b (by simp only [AHeap.n_room]; omega) (by omega))⟩
          have e2 : Ext B h G := by rw [hG]; exact Ext.setR (by omega) e1
          exact Ext.setR hBq (e2.trans (Nat.le_refl _) x5)
        exact ⟨_, st', w', h', .cons z1, z2, by simpa using z3, z4, z5, xe.trans (Nat.le_refl _) z6, .step st1 z7⟩
end Go.Proofs.Wire

namespace Go.Proofs.Wire
open Go AEv Go.Proofs Go.Proofs.Enc
set_option maxRecDepth 100000
set_option maxHeartbeats 1000000

/-! ### The document's Answered -/
theorem readsT_left {n : Nat} {a b : RdS} {l : List (List UInt8)} (hh : ReadsT n a l b) : (left b).length ≤ (left a).length := by
  induction hh with
  | nil st => exact Nat.le_refl _
  | bad n => exact Nat.le_refl _
  | cons hh ih => rename_i n u l st; have := (textS_len (some u)).1; omega
theorem anS3_len (s : List UInt8) : (left (anS3 s)).length ≤ s.length ∧ msr (anS3 s) ≤ s.length + 2 := by
  have h1 := numS_len (some s)
  have h2 := textS_len (numS (some s)).2
  have h3 : (left (anS3 s)).length ≤ (left (anS2 s)).length := numS_len (anS2 s)
  have h4 : (left (anS2 s)).length ≤ (left (numS (some s)).2).length := h2.1
  have h5 : (left (some s)).length = s.length := rfl
  refine ⟨by omega, ?_⟩
  cases hx : anS3 s with
  | none => show 1 ≤ _; omega
  | some v =>
    rw [hx] at h3
    have : v.length ≤ (left (anS2 s)).length := h3
    show v.length + 2 ≤ _; omega
theorem ranswered_c (m : Nat) (s : List UInt8) (h : AHeap) (hs : s.length ≤ 60000) : ∃ vs e h', C (m + 6) (.fn 36) [.str s] h = .ret (.tup [.agg vs, .int .i64 (Int.ofNat e)]) h' ∧ Ext h.n h h' ∧ RspQ h.n h' s vs e := by
  obtain ⟨H, hH⟩ : ∃ H, H = h.push (.cells rsp0 54 .own 0 0) := ⟨_, rfl⟩
  have xH : Ext h.n h H := by rw [hH]; exact exA
  have nH : H.n = h.n + 1 := by rw [hH]; rfl
  have aH : H.get h.n = some (.cells rsp0 54 .own 0 0) := by rw [hH]; exact gtop rfl
  obtain ⟨g, hg⟩ : ∃ g, g = H.push (.cells [.str s, .bool false] 78 .own 0 0) := ⟨_, rfl⟩
  have ng : g.n = h.n + 2 := by rw [hg]; simp [nH]
  have xg : Ext H.n H g := by rw [hg]; exact exA
  have ag : g.get h.n = some (.cells rsp0 54 .own 0 0) := (xg.get h.n (by omega)).trans aH
  obtain ⟨p, hp⟩ : ∃ p, p = H.n := ⟨_, rfl⟩
  have r1 : Rr g p (some s) := by rw [hg, hp]; exact ⟨by simp, by show s.length ≤ _; omega, gtop rfl⟩
  obtain ⟨g1, c2, x2, r2⟩ := rnum_c (m + 2) p (some s) g r1
  obtain ⟨g2, c3, x3, r3⟩ := rtext_c (m + 1) p _ g1 r2
  have n2 := x2.n
  have n3 := x3.n
  have ow2 : OwnK p g g2 := (OwnK.ofX x2).trans (OwnK.ofX x3)
  have hpa : h.n ≠ p := by omega
  have a2v := ow2.2 h.n _ _ (by omega) hpa ag
  obtain ⟨cd, hcd⟩ : ∃ cd, cd = min (anCode s) 100 := ⟨_, rfl⟩
  have hmin := min_u (anCode s) 100
  rw [← hcd] at hmin
  have hcl := numS_lt (some s)
  rw [show (numS (some s)).1 = anCode s from rfl] at c2 hcl
  rw [show (textS (numS (some s)).2).1 = anText s from rfl] at c3
  rw [show (textS (numS (some s)).2).2 = anS2 s from rfl] at r3
  obtain ⟨g3, hg3⟩ : ∃ g3, g3 = (g2.push (.cells rsp0 54 .own 0 0)).set g2.n (some (.cells [.int .i64 (Int.ofNat cd), .str (anText s), .nilS, .nilS, .int .u64 (Int.ofNat 0)] 54 .own 0 0)) := ⟨_, rfl⟩
  have st3 : AEv.storeCells (g2.push (.cells rsp0 54 .own 0 0)) g2.n 0 [.int .i64 (Int.ofNat cd), .str (anText s), .nilS, .nilS, .int .u64 (Int.ofNat 0)] = some g3 := by rw [hg3]; exact stc (gtop rfl) rfl rfl
  have x3' : Ext g2.n g2 g3 := by rw [hg3]; exact exA
  have n3' : g3.n = g2.n + 1 := by rw [hg3]; rfl
  have q3 : g3.get g2.n = some (.cells [.int .i64 (Int.ofNat cd), .str (anText s), .nilS, .nilS, .int .u64 (Int.ofNat 0)] 54 .own 0 0) := by rw [hg3]; exact gsame rfl
  have a3v := (x3'.get h.n (by omega)).trans a2v
  have hpq : p ≠ g2.n := by have := r1.1; omega
  obtain ⟨g4, c4, x4, r4⟩ := rnum_c (m + 2) p (anS2 s) g3 (r3.mono x3' (Nat.le_refl _))
  have n4 := x4.n
  rw [show (numS (anS2 s)).1 = anN s from rfl] at c4
  rw [show (numS (anS2 s)).2 = anS3 s from rfl] at r4
  have hN : anN s < 18446744073709551616 := numS_lt _
  have q4 := (x4.get g2.n (by omega) (fun e => hpq e.symm)).trans q3
  have a4v := (x4.get h.n (by omega) hpa).trans a3v
  obtain ⟨ps, st4, w, g5, z1, z2, z3, z4, z5, z6, z7⟩ := bl_loop (m + 1) p h.n g2.n h.n (anN s) cd (anText s) hN hpq hpa (by omega) (s.length + 2) 0 (anS3 s) .nilS [] g4 (anS3_len s).2 (by simp; omega) (Nat.zero_le _) r4 (.inl ⟨rfl, rfl⟩) q4 a4v (by omega) (by omega) (by omega) (by omega) (by omega)
  rw [List.nil_append] at z3
  rw [Nat.sub_zero] at z1
  have hpl := readsT_len z1
  have hm3 := (anS3_len s).2
  have loop := LoopF.run (p := [1, 1, 1, 1, 0, 1, 0]) (by kernel_rfl) z7 (by omega)
  have n5 := z6.n
  obtain ⟨g6, c6, x6, r6⟩ := rtext_c (m + 1) p st4 g5 z2
  have n6 := x6.n
  have o6 := z3.monoX z2.2.2 x6 (Nat.le_refl _)
  have a6v := (x6.get h.n (by omega) hpa).trans z5
  have q6 := (x6.get g2.n (by omega) (fun e => hpq e.symm)).trans z4
  have htl : (textS st4).1.length ≤ 70000 := by
    have h1 := (textS_len st4).2
    have h2 := readsT_left z1
    have h3 := (anS3_len s).1
    omega
  obtain ⟨wd, e, g7, c7, x7, d7⟩ := rdecode_c m (textS st4).1 g6 htl
  have n7 := x7.n
  have o7 := o6.mono x7 (Nat.le_refl _)
  have a7v := (x7.get h.n (by omega)).trans a6v
  have q7 := (x7.get g2.n (by omega)).trans q6
  have r7 := r6.mono x7 (Nat.le_refl _)
  have hwd7 : wd = .nilS ∨ ∃ P n c, wd = .slice P 0 n c := by
    rcases d7 with ⟨l, _, o, _, _⟩ | ⟨_, h, _⟩
    · rcases o with ⟨h, _⟩ | ⟨P, h, _⟩
      · exact .inl h
      · exact .inr ⟨_, _, _, h⟩
    · exact .inl h
  obtain ⟨G7, hG7⟩ : ∃ G7, G7 = g7.set g2.n (some (.cells [.int .i64 (Int.ofNat cd), .str (anText s), w, wd, .int .u64 (Int.ofNat 0)] 54 .own 0 0)) := ⟨_, rfl⟩
  have nG7 : G7.n = g7.n := by rw [hG7]; rfl
  have s6 : RunF Try.prog Try.f36 none (C (m + 5)) [1, 1, 1, 1, 1, 1, 0] ⟨[(2, .ptr h.n 0), (4, .ptr p 0), (5, .ptr g2.n 0), (8, wd), (9, .int .i64 (Int.ofNat e))], [], .none, g7⟩ .nrm ⟨[(2, .ptr h.n 0), (4, .ptr p 0), (5, .ptr g2.n 0), (9, .int .i64 (Int.ofNat e))], [], .none, G7⟩ := by
    rw [hG7]
    rcases hwd7 with rfl | ⟨P, n, c, rfl⟩
    · exact b6n (C (m + 5)) h.n p g2.n e g7 _ (stc q7 rfl rfl)
    · exact b6s (C (m + 5)) h.n p g2.n e P n c g7 _ (stc q7 rfl rfl)
  have oG7 : OutG encS 1 9 h.n G7 w ps := by rw [hG7]; exact o7.setOwn q7
  have aG7 : G7.get h.n = some (.cells rsp0 54 .own 0 0) := by rw [hG7]; exact gother (by omega) a7v
  have qG7 : G7.get g2.n = some (.cells [.int .i64 (Int.ofNat cd), .str (anText s), w, wd, .int .u64 (Int.ofNat 0)] 54 .own 0 0) := by rw [hG7]; exact gsame rfl
  have rG7 : Rr G7 p (textS st4).2 := by rw [hG7]; exact r7.set hpq
  obtain ⟨g8, c8, x8, r8⟩ := rnum_c (m + 2) p _ G7 rG7
  have n8 := x8.n
  have o8 := oG7.monoX rG7.2.2 x8 (Nat.le_refl _)
  have a8v := (x8.get h.n (by omega) hpa).trans aG7
  have q8 := (x8.get g2.n (by omega) (fun e => hpq e.symm)).trans qG7
  obtain ⟨nm, hnm⟩ : ∃ nm, nm = (numS (textS st4).2).1 := ⟨_, rfl⟩
  rw [← hnm] at c8
  obtain ⟨g9, hg9⟩ : ∃ g9, g9 = g8.set g2.n (some (.cells [.int .i64 (Int.ofNat cd), .str (anText s), w, wd, .int .u64 (Int.ofNat nm)] 54 .own 0 0)) := ⟨_, rfl⟩
  have st9 : AEv.storeCells g8 g2.n (0 + 4) [.int .u64 (Int.ofNat nm)] = some g9 := by rw [hg9]; exact stc q8 rfl rfl
  have n9 : g9.n = g8.n := by rw [hg9]; rfl
  have o9 : OutG encS 1 9 h.n g9 w ps := by rw [hg9]; exact o8.setOwn q8
  have a9v : g9.get h.n = some (.cells rsp0 54 .own 0 0) := by rw [hg9]; exact gother (by omega) a8v
  have q9 : g9.get g2.n = some (.cells [.int .i64 (Int.ofNat cd), .str (anText s), w, wd, .int .u64 (Int.ofNat nm)] 54 .own 0 0) := by rw [hg9]; exact gsame rfl
  have r9 : Rr g9 p (numS (textS st4).2).2 := by rw [hg9]; exact r8.set hpq
  have ce := rend_c (m + 4) p _ g9 r9
  have hph : h.n ≤ p := by omega
  have y1 : Ext h.n h g := xH.trans xH.n xg
  have y2 := Ext.callX x2 y1.n hph y1
  have y3 := Ext.callX x3 y2.n hph y2
  have y4 := Ext.callR x3' y3.n y3
  have y5 := Ext.callX x4 y4.n hph y4
  have y6 := y5.trans (Nat.le_refl _) z6
  have y7 := Ext.callX x6 y6.n hph y6
  have y8 := Ext.callR x7 y7.n y7
  have y8' : Ext h.n h G7 := by rw [hG7]; exact Ext.setR (by omega) y8
  have y9 := Ext.callX x8 y8'.n hph y8'
  have x09 : Ext h.n h g9 := by rw [hg9]; exact Ext.setR (by omega) y9
  have s0 := b0 (C (m + 5)) s h
  rw [← hH] at s0
  have s1 := b1 (C (m + 5)) s h.n H
  rw [← hg, ← hp] at s1
  have s2 : RunF Try.prog Try.f36 none (C (m + 5)) [1, 1, 0] ⟨[(2, .ptr h.n 0), (4, .ptr p 0)], [], .none, g⟩ .nrm ⟨[(2, .ptr h.n 0), (4, .ptr p 0), (5, .ptr g2.n 0)], [], .none, g3⟩ := (b2 _ _ _ _ _ _ _ _ _ _ _ (c2) (hmin) (conv_int u64t (by kernel_rfl) (wrap_nat cd (by omega))) (c3) (st3))
  have s3 := b3 (C (m + 5)) h.n p g2.n g3 (anN s) g4 c4
  have s4 := b4 (C (m + 5)) h.n p g2.n (anN s) g4 g5 (RunP.pre loop ⟨rfl, rfl, rfl, rfl, rfl, trivial⟩ rfl rfl rfl)
  have s5 := b5 (C (m + 5)) h.n p g2.n e wd g5 g7 (textS st4).1 g6 c6 c7
  have s7 := b7 (C (m + 5)) h.n p g2.n e G7 nm g8 g9 c8 st9
  have fin : ∀ {Γ : Env} {h' : AHeap} {v : AV}, RunF Try.prog Try.f36 none (C (m + 5)) [1, 1, 1, 1, 1, 1, 1, 1] ⟨[(2, .ptr h.n 0), (4, .ptr p 0), (5, .ptr g2.n 0), (9, .int .i64 (Int.ofNat e))], [], .none, g9⟩ .ret ⟨Γ, [], .none, h'⟩ → resS Try.prog (needFn Try.f36) Try.f36 Γ h' = some v → C (m + 6) (.fn 36) [.str s] h = .ret v h' := fun hr hres =>
    fn_runF (intr := Ii) (n := m + 5) (args := [.str s]) Try.func36 (by kernel_rfl) rfl (by kernel_rfl)
      (RunF.seq (p := []) (by kernel_rfl) s0 (RunF.seq (p := [1]) (by kernel_rfl) s1 (RunF.seq (p := [1, 1]) (by kernel_rfl) s2 (RunF.seq (p := [1, 1, 1]) (by kernel_rfl) s3 (RunF.seq (p := [1, 1, 1, 1]) (by kernel_rfl) s4 (RunF.seq (p := [1, 1, 1, 1, 1]) (by kernel_rfl) s5 (RunF.seq (p := [1, 1, 1, 1, 1, 1]) (by kernel_rfl) s6 (RunF.seq (p := [1, 1, 1, 1, 1, 1, 1]) (by kernel_rfl) s7 hr)))))))) (.inl rfl) hres
  have res : ∀ {Γ : Env} {vs : List AV} {e : Nat} {h' : AHeap}, lk 2 Γ = some (.ptr h.n 0) → lk 3 Γ = some (.int .i64 (Int.ofNat e)) → h'.get h.n = some (.cells vs 54 .own 0 0) → vs.length = 5 → resS Try.prog (needFn Try.f36) Try.f36 Γ h' = some (.tup [.agg vs, .int .i64 (Int.ofNat e)]) := fun {Γ vs e h'} e1 e2 hg hl =>
    resS_ct (t := 2) (u := 3) (by kernel_rfl) (by kernel_rfl) (by kernel_rfl) (by kernel_rfl) (by kernel_rfl : sizeT Try.prog 54 = some 5) e1 e2 (load5 hl hg)
  have sta : AEv.storeCells g9 h.n 0 rsp0 = some (g9.set h.n (some (.cells rsp0 54 .own 0 0))) := stc a9v rfl rfl
  have bad : ¬ anOK s st4 → RspQ h.n (g9.set h.n (some (.cells rsp0 54 .own 0 0))) s rsp0 4 := fun hb => ⟨ps, st4, z1, .inr ⟨hb, rfl, rfl⟩⟩
  have xbad : Ext h.n h (g9.set h.n (some (.cells rsp0 54 .own 0 0))) := Ext.setR (Nat.le_refl _) x09
  rcases decQ_bad d7 with ⟨rfl, l, hgd, hwd, hl⟩ | ⟨he, hno⟩
  · by_cases hend : endS (numS (textS st4).2).2 = true
    · rw [hend] at ce
      have ld : load1 g9 g2.n (0 + 0) = some (.int .i64 (Int.ofNat cd)) := ld1 q9 rfl
      by_cases hc : cd ≤ 14
      · have ecd : cd = anCode s := by omega
        have hwd9 : RowK encD 3 35 h.n g9 wd l := by
          rw [hg9]
          have k1 : RowK encD 3 35 g6.n G7 wd l := by rw [hG7]; exact hwd.setOwn q7
          exact ((k1.monoX rG7.2.2 x8 (Nat.le_refl _)).setOwn q8).le y7.n
        have hsh := rowK_shape (OutG.rowK o9)
        have hsd := rowK_shape hwd9
        have pc : putCells 0 [.int .i64 (Int.ofNat cd), .str (anText s), w, wd, .int .u64 (Int.ofNat nm)] rsp0 = some [.int .i64 (Int.ofNat cd), .str (anText s), w, wd, .int .u64 (Int.ofNat nm)] := by
          rcases hsh with rfl | ⟨_, _, _, rfl⟩ <;> rcases hsd with rfl | ⟨_, _, _, rfl⟩ <;> rfl
        have s9 := b9 (C (m + 5)) h.n g2.n [.int .i64 (Int.ofNat cd), .str (anText s), w, wd, .int .u64 (Int.ofNat nm)] g9 _ (load5 rfl q9) ⟨rfl, stc a9v rfl pc, rfl⟩
        have s8 := b8_4 (C (m + 5)) h.n p g2.n 0 g9 true g9 cd rfl ce rfl ld (lt_f (by omega))
        refine ⟨_, 0, _, fin (RunF.seq (p := [1, 1, 1, 1, 1, 1, 1, 1]) (by kernel_rfl) s8 s9) (res rfl rfl (gsame rfl) rfl), Ext.setR (Nat.le_refl _) x09, ps, st4, z1, .inl ⟨l, w, wd, hgd, hend, by omega, rfl, by rw [ecd, hnm], (OutG.rowK o9).setOwn a9v, hwd9.setOwn a9v, hl, by omega⟩⟩
      · have s8 := b8_3 (C (m + 5)) h.n p g2.n 0 g9 true g9 cd _ rfl ce rfl ld (lt_t (by omega)) sta
        exact ⟨rsp0, 4, _, fin (RunF.seqx (p := [1, 1, 1, 1, 1, 1, 1, 1]) (by kernel_rfl) s8 (by simp)) (res rfl rfl (gsame rfl) rfl), xbad, bad fun hb => hc (by have := hb.2.2; omega)⟩
    · have hend' : endS (numS (textS st4).2).2 = false := by simpa using hend
      rw [hend'] at ce
      have s8 := b8_2 (C (m + 5)) h.n p g2.n 0 g9 false g9 _ rfl ce rfl sta
      exact ⟨rsp0, 4, _, fin (RunF.seqx (p := [1, 1, 1, 1, 1, 1, 1, 1]) (by kernel_rfl) s8 (by simp)) (res rfl rfl (gsame rfl) rfl), xbad, bad fun hb => hend hb.2.1⟩
  · have s8 := b8_1 (C (m + 5)) h.n p g2.n e g9 _ (by rw [eqI_f he]; rfl) sta
    exact ⟨rsp0, 4, _, fin (RunF.seqx (p := [1, 1, 1, 1, 1, 1, 1, 1]) (by kernel_rfl) s8 (by simp)) (res rfl rfl (gsame rfl) rfl), xbad, bad fun hb => by obtain ⟨l, hl⟩ := hb.1; exact hno l hl⟩
end Go.Proofs.Wire

namespace Go.Proofs.Wire
open Go AEv Go.Proofs Go.Proofs.Enc
set_option maxRecDepth 100000
set_option maxHeartbeats 1000000

theorem mr0 (call : CallT → List AV → AHeap → FRes) (s : List UInt8) (h : AHeap) :
    RunF Try.prog Try.f9 none call [0] (SSt.mk [(0, .str s)] [] .none h) (.nrm)
      (SSt.mk [(0, .str s)] [] .none h) :=
  sxF_run [0] (hs := []) (by kernel_rfl) <| .nil
theorem mr1 (call : CallT → List AV → AHeap → FRes) (s : List UInt8) (h : AHeap) (n_1 : Nat) (t_1 : List UInt8)
    (H1 : foldA minA (AV.int IntKind.i64 (Int.ofNat (List.length s))) [AV.int IntKind.i64 (Int.ofNat 3000)] = some (AV.int IntKind.i64 (Int.ofNat n_1)))
    (H2 : sliceA Try.prog h 9 (AV.str s) none (some (AV.int IntKind.i64 (Int.ofNat n_1))) none = some (AV.str t_1)) :
    RunF Try.prog Try.f9 none call [1, 0] (SSt.mk [(0, .str s)] [] .none h) (.nrm)
      (SSt.mk [(0, .str t_1)] [] .none h) :=
  sxF_run [0] (hs := [.v (.int .i64 (.ofNat n_1)), .v (.str t_1)]) (by kernel_rfl) <| .cons H1 <| .cons H2 <| .nil
theorem mr2 (call : CallT → List AV → AHeap → FRes) (s a b c : List UInt8) (k : Int) (e : Nat) (h g g_1 : AHeap)
    (H1 : call (.fn 33) [.str s] h = FRes.ret (.tup [.agg [.int .i64 k, .str a, .str b, .str c], .int .i64 (.ofNat e)]) g)
    (H2 : AEv.storeCells (AHeap.push g (.cells [.int .i64 (.ofNat 0), .str [], .str [], .str []] 42 .own 0 0)) (AHeap.n g) 0 [.int .i64 k, .str a, .str b, .str c] = some g_1) :
    RunF Try.prog Try.f9 none call [1, 1, 0] (SSt.mk [(0, .str s)] [] .none h) (.nrm)
      (SSt.mk [(0, .str s), (3, .ptr (AHeap.n g) 0), (4, .int .i64 (.ofNat e))] [] .none g_1) :=
  sxF_run [0, 3, 4] (hs := [.c (.tup [.agg [.int .i64 k, .str a, .str b, .str c], .int .i64 (.ofNat e)]) g, .vh (.tup []) g_1]) (by kernel_rfl) <| .cons H1 <| .cons (⟨by kernel_rfl, H2, rfl⟩ : some 4 = some 4 ∧ AEv.storeCells (AHeap.push g (AObj.cells [AV.int IntKind.i64 (Int.ofNat 0), AV.str [], AV.str [], AV.str []] 42 BK.own 0 0)) (AHeap.n g) 0 [AV.int IntKind.i64 k, AV.str a, AV.str b, AV.str c] = some g_1 ∧ AV.tup [] = AV.tup []) <| .nil
theorem mr3 (call : CallT → List AV → AHeap → FRes) (s a b c : List UInt8) (k : Int) (e p : Nat) (y : AV) (h g g_1 : AHeap)
    (H1 : call (.fn 34) [.str s] h = FRes.ret (.tup [.agg [.int .i64 k, .str a, .str b, .str c], .int .i64 (.ofNat e)]) g)
    (H2 : AEv.storeCells (AHeap.push g (.cells [.int .i64 (.ofNat 0), .str [], .str [], .str []] 42 .own 0 0)) (AHeap.n g) 0 [.int .i64 k, .str a, .str b, .str c] = some g_1) :
    RunF Try.prog Try.f9 none call [1, 1, 1, 0] (SSt.mk [(0, .str s), (3, .ptr p 0), (4, y)] [] .none h) (.nrm)
      (SSt.mk [(0, .str s), (3, .ptr p 0), (4, y), (5, .ptr (AHeap.n g) 0), (6, .int .i64 (.ofNat e))] [] .none g_1) :=
  sxF_run [0, 3, 4, 5, 6] (hs := [.c (.tup [.agg [.int .i64 k, .str a, .str b, .str c], .int .i64 (.ofNat e)]) g, .vh (.tup []) g_1]) (by kernel_rfl) <| .cons H1 <| .cons (⟨by kernel_rfl, H2, rfl⟩ : some 4 = some 4 ∧ AEv.storeCells (AHeap.push g (AObj.cells [AV.int IntKind.i64 (Int.ofNat 0), AV.str [], AV.str [], AV.str []] 42 BK.own 0 0)) (AHeap.n g) 0 [AV.int IntKind.i64 k, AV.str a, AV.str b, AV.str c] = some g_1 ∧ AV.tup [] = AV.tup []) <| .nil
theorem mr4 (call : CallT → List AV → AHeap → FRes) (s : List UInt8) (vs : List AV) (e p q : Nat) (y z : AV) (h g g_1 : AHeap)
    (H1 : call (.fn 35) [.str s] h = FRes.ret (.tup [.agg vs, .int .i64 (.ofNat e)]) g)
    (H2 : some 5 = some (List.length vs) ∧ AEv.storeCells (AHeap.push g (AObj.cells [AV.int IntKind.i64 (Int.ofNat 0), AV.str [], AV.nilS, AV.nilS, AV.int IntKind.u64 (Int.ofNat 0)] 54 BK.own 0 0)) (AHeap.n g) 0 vs = some g_1 ∧ AV.tup [] = AV.tup []) :
    RunF Try.prog Try.f9 none call [1, 1, 1, 1, 0] (SSt.mk [(0, .str s), (3, .ptr p 0), (4, y), (5, .ptr q 0), (6, z)] [] .none h) (.nrm)
      (SSt.mk [(0, .str s), (3, .ptr p 0), (4, y), (5, .ptr q 0), (6, z), (7, .ptr (AHeap.n g) 0), (8, .int .i64 (.ofNat e))] [] .none g_1) :=
  sxF_run [0, 3, 4, 5, 6, 7, 8] (hs := [.c (.tup [.agg vs, .int .i64 (.ofNat e)]) g, .vh (.tup []) g_1]) (by kernel_rfl) <| .cons H1 <| .cons H2 <| .nil
theorem mr5 (call : CallT → List AV → AHeap → FRes) (s : List UInt8) (vs : List AV) (e p q a : Nat) (y z x : AV) (h g g_1 : AHeap)
    (H1 : call (.fn 36) [.str s] h = FRes.ret (.tup [.agg vs, .int .i64 (.ofNat e)]) g)
    (H2 : some 5 = some (List.length vs) ∧ AEv.storeCells (AHeap.push g (AObj.cells [AV.int IntKind.i64 (Int.ofNat 0), AV.str [], AV.nilS, AV.nilS, AV.int IntKind.u64 (Int.ofNat 0)] 54 BK.own 0 0)) (AHeap.n g) 0 vs = some g_1 ∧ AV.tup [] = AV.tup []) :
    RunF Try.prog Try.f9 none call [1, 1, 1, 1, 1, 0] (SSt.mk [(0, .str s), (3, .ptr p 0), (4, y), (5, .ptr q 0), (6, z), (7, .ptr a 0), (8, x)] [] .none h) (.nrm)
      (SSt.mk [(3, .ptr p 0), (4, y), (5, .ptr q 0), (6, z), (7, .ptr a 0), (8, x), (9, .ptr (AHeap.n g) 0), (10, .int .i64 (.ofNat e))] [] .none g_1) :=
  sxF_run [3, 4, 5, 6, 7, 8, 9, 10] (hs := [.c (.tup [.agg vs, .int .i64 (.ofNat e)]) g, .vh (.tup []) g_1]) (by kernel_rfl) <| .cons H1 <| .cons H2 <| .nil
theorem mr6_1 (call : CallT → List AV → AHeap → FRes) (vs ws : List AV) (t1 t2 t3 : List UInt8) (k : Int) (e f p q a b : Nat) (h g g2 : AHeap)
    (H1 : AEv.loadCells h p 0 4 = some [.int .i64 k, .str t1, .str t2, .str t3])
    (H2 : AEv.loadCells h q 0 4 = some [.int .i64 k, .str t1, .str t2, .str t3])
    (H3 : binA Try.prog h BinOp.eql 42 (Operand.tmp 36) (Operand.tmp 37) (AV.agg [AV.int IntKind.i64 k, AV.str t1, AV.str t2, AV.str t3]) (AV.agg [AV.int IntKind.i64 k, AV.str t1, AV.str t2, AV.str t3]) = some (AV.bool true))
    (H4 : eqI (.ofNat e) (.ofNat e) = true)
    (H5 : AEv.loadCells h a 0 5 = some vs)
    (H6 : AEv.loadCells h b 0 5 = some ws)
    (H7 : call (.fn 37) [.agg vs, .agg ws] h = FRes.ret (.bool true) g)
    (H8 : eqI (.ofNat f) (.ofNat f) = true)
    (H9 : call (.fn 32) [] g = FRes.ret (.bool true) g2) :
    RunF Try.prog Try.f9 none call [1, 1, 1, 1, 1, 1] (SSt.mk [(3, .ptr p 0), (4, .int .i64 (.ofNat e)), (5, .ptr q 0), (6, .int .i64 (.ofNat e)), (7, .ptr a 0), (8, .int .i64 (.ofNat f)), (9, .ptr b 0), (10, .int .i64 (.ofNat f))] [] .none h) (.ret)
      (SSt.mk [(2, .bool true)] [] .none g2) :=
  sxF_run [2] (hs := [.v (.agg [.int .i64 k, .str t1, .str t2, .str t3]), .v (.agg [.int .i64 k, .str t1, .str t2, .str t3]), .v (.bool true), .b true, .b true, .b true, .b true, .b true, .v (.agg vs), .b true, .v (.agg ws), .b true, .c (.bool true) g, .b true, .b true, .b true, .b true, .b true, .b true, .c (.bool true) g2, .b true]) (by kernel_rfl) <| .cons H1 <| .cons H2 <| .cons H3 <| .cons (by kernel_rfl : true = true) <| .cons (by kernel_rfl : true = true) <| .cons (by kernel_rfl : true = true) <| .cons (by kernel_rfl : true = true) <| .cons H4 <| .cons H5 <| .cons H4 <| .cons H6 <| .cons H4 <| .cons H7 <| .cons H4 <| .cons (by kernel_rfl : true = true) <| .cons (by kernel_rfl : true = true) <| .cons (by kernel_rfl : true = true) <| .cons (by kernel_rfl : true = true) <| .cons H8 <| .cons H9 <| .cons H8 <| .nil
/-! ### Are two responses alike? MsgReads -/
theorem nth_strs : ∀ (ps : List (List UInt8)) (i : Nat) (hi : i < ps.length), nth i (rowL encS ps) = some (.str ps[i])
  | [], i, hi => by simp at hi
  | x :: l, 0, hi => rfl
  | x :: l, i + 1, hi => by
    have := nth_strs l i (by simpa using hi)
    rw [rowL_cons]
    simpa [nth] using this
theorem str_at {h : AHeap} {b el lo up : Nat} {k : BK} {ps : List (List UInt8)} (hg : h.get b = some (.cells (rowL encS ps) el k lo up)) {i : Nat} (hi : i < ps.length) : load1 h b (0 + i * 1) = some (.str ps[i]) := by
  have e : 0 + i * 1 = i := by omega
  simp only [load1, hg, e, nth_strs ps i hi]
theorem sal_loop (call : CallT → List AV → AHeap → FRes) (p q b1 b2 : Nat) (k1 k2 : Cap) (ps : List (List UInt8)) (hb : ps.length < 90000) : ∀ (k i : Nat) (h : AHeap), ps.length - i = k → i ≤ ps.length → load1 h p (0 + 2) = some (.slice b1 0 ps.length k1) → load1 h q (0 + 2) = some (.slice b2 0 ps.length k2) → (∀ i (hi : i < ps.length), load1 h b1 (0 + i * 1) = some (.str ps[i])) → (∀ i (hi : i < ps.length), load1 h b2 (0 + i * 1) = some (.str ps[i])) →
    ∃ h', Ext h.n h h' ∧ LoopF Try.prog Try.f37 none call [1, 1, 0, 1, 0] (k + 1) ⟨[(2, .ptr p 0), (3, .ptr q 0), (5, .int .i64 (Int.ofNat i))], [], .none, h⟩ (.exit 0) ⟨[(2, .ptr p 0), (3, .ptr q 0)], [], .none, h'⟩
  | 0, i, h, hk, hi, hp, hq, l1, l2 => by
    obtain rfl : i = ps.length := by omega
    exact ⟨h, Ext.refl _ _, .exit (RunP.post (sal_3 _ _ _ _ _ (0) _ _ (.dead) ([]) _ (hp) (lt_f (by omega))) ⟨rfl, rfl, trivial⟩) (by simp)⟩
  | k + 1, i, h, hk, hi, hp, hq, l1, l2 => by
    have hii : i < ps.length := by omega
    obtain ⟨h', x, l⟩ := sal_loop call p q b1 b2 k1 k2 ps hb k (i + 1) (h.room 11) (by omega) (by omega) hp hq l1 l2
    exact ⟨h', (Ext.roomR (Ext.refl _ _)).trans (by simp) x, .step (sal_2 _ _ _ _ _ _ _ _ _ _ _ _ (hp) (lt_t (by omega)) (hp) (by show (_ : Nat) ≤ _; omega) (l1 i hii) (hq) (by show (_ : Nat) ≤ _; omega) (l2 i hii) ((by rw [bbr]; rfl)) (add_n (by omega))) l⟩
theorem sdl_loop (call : CallT → List AV → AHeap → FRes) (p q b1 b2 : Nat) (k1 k2 : Cap) (ds : List Dg) (hb : ds.length < 90000) : ∀ (k i : Nat) (h : AHeap), ds.length - i = k → i ≤ ds.length → load1 h p (0 + 3) = some (.slice b1 0 ds.length k1) → load1 h q (0 + 3) = some (.slice b2 0 ds.length k2) → (∀ i (hi : i < ds.length), AEv.loadCells h b1 (0 + i * 3) 3 = some (encD ds[i])) → (∀ i (hi : i < ds.length), AEv.loadCells h b2 (0 + i * 3) 3 = some (encD ds[i])) →
    ∃ h', Ext h.n h h' ∧ LoopF Try.prog Try.f37 none call [1, 1, 1, 0, 1, 0] (k + 1) ⟨[(2, .ptr p 0), (3, .ptr q 0), (6, .int .i64 (Int.ofNat i))], [], .none, h⟩ (.exit 2) ⟨[(2, .ptr p 0), (3, .ptr q 0)], [], .none, h'⟩
  | 0, i, h, hk, hi, hp, hq, l1, l2 => by
    obtain rfl : i = ds.length := by omega
    exact ⟨h, Ext.refl _ _, .exit (RunP.post (sdl_2 _ _ _ _ _ (0) _ _ (.dead) ([]) (0) (0) _ (hp) (lt_f (by omega))) ⟨rfl, rfl, trivial⟩) (by simp)⟩
  | k + 1, i, h, hk, hi, hp, hq, l1, l2 => by
    have hii : i < ds.length := by omega
    obtain ⟨h', x, l⟩ := sdl_loop call p q b1 b2 k1 k2 ds hb k (i + 1) (h.room 11) (by omega) (by omega) hp hq l1 l2
    have bn := bin_ne (h.room 11) (Operand.tmp 73) (Operand.tmp 78) ds[i] ds[i]
    rw [(eqB_iff _ _).2 rfl] at bn
    exact ⟨h', (Ext.roomR (Ext.refl _ _)).trans (by simp) x, .step (sdl_1 _ _ _ _ _ _ _ _ _ _ _ _ _ _ (hp) (lt_t (by omega)) (hp) (by show (_ : Nat) ≤ _; omega) (l1 i hii) (hq) (by show (_ : Nat) ≤ _; omega) (l2 i hii) (bn) (add_n (by omega))) l⟩
theorem eqI_self (a : Int) : eqI a a = true := by simp [eqI]
theorem rsame27_c (m B1 B2 B3 B4 : Nat) (cd nm : Int) (t : List UInt8) (ps : List (List UInt8)) (l : List Dg) (w1 w2 d1 d2 : AV) (h : AHeap) (h1 : RowK encS 1 9 B1 h w1 ps) (h2 : RowK encS 1 9 B2 h w2 ps) (h3 : RowK encD 3 35 B3 h d1 l) (h4 : RowK encD 3 35 B4 h d2 l) (hpb : ps.length < 90000) (hlb : l.length < 90000) :
    ∃ h', C (m + 1) (.fn 37) [.agg [.int .i64 cd, .str t, w1, d1, .int .u64 nm], .agg [.int .i64 cd, .str t, w2, d2, .int .u64 nm]] h = .ret (.bool true) h' ∧ Ext h.n h h' := by
  obtain ⟨H, hH⟩ : ∃ H, H = (h.push (.cells [.int .i64 cd, .str t, w1, d1, .int .u64 nm] 54 .own 0 0)).push (.cells [.int .i64 cd, .str t, w2, d2, .int .u64 nm] 54 .own 0 0) := ⟨_, rfl⟩
  have xH : Ext h.n h H := by rw [hH]; exact exA
  have nH : H.n = h.n + 2 := by rw [hH]; simp
  have gp : H.get h.n = some (.cells [.int .i64 cd, .str t, w1, d1, .int .u64 nm] 54 .own 0 0) := by rw [hH]; exact gold (by simp) (gtop rfl)
  have gq : H.get (h.n + 1) = some (.cells [.int .i64 cd, .str t, w2, d2, .int .u64 nm] 54 .own 0 0) := by rw [hH]; exact gtop (by simp)
  have s0 : RunF Try.prog Try.f37 none (C m) [0] ⟨[(0, .agg [.int .i64 cd, .str t, w1, d1, .int .u64 nm]), (1, .agg [.int .i64 cd, .str t, w2, d2, .int .u64 nm])], [], .none, h⟩ .nrm ⟨[(2, .ptr h.n 0), (3, .ptr (h.n + 1) 0)], [], .none, H⟩ := by
    rw [hH]
    rcases h1 with ⟨rfl, e1⟩ | ⟨b1, k1, rfl, q1, _⟩ <;> rcases h2 with ⟨rfl, e2⟩ | ⟨b2, k2, rfl, q2, _⟩ <;> (try (subst e1; simp at q2; done)) <;> (try (subst e2; simp at q1; done)) <;>
    rcases h3 with ⟨rfl, e3⟩ | ⟨b3, k3, rfl, q3, _⟩ <;> rcases h4 with ⟨rfl, e4⟩ | ⟨b4, k4, rfl, q4, _⟩ <;> (try (subst e3; simp at q4; done)) <;> (try (subst e4; simp at q3; done))
    · exact sa0nn (C m) cd nm t h
    · exact sa0ns (C m) cd nm t b3 b4 l.length k3 k4 h
    · exact sa0sn (C m) cd nm t b1 b2 ps.length k1 k2 h
    · exact sa0ss (C m) cd nm t b1 b2 ps.length k1 k2 b3 b4 l.length k3 k4 h
  have f1 : (!eqI cd cd) = false := by rw [eqI_self]; rfl
  have f2 : (!beqBytes t t) = false := by rw [bbr]; rfl
  have f3 : (!eqI nm nm) = false := by rw [eqI_self]; rfl
  have f4 : ∀ n : Nat, (!eqI (Int.ofNat n) (Int.ofNat n)) = false := fun n => by rw [eqI_self]; rfl
  have s1 : RunF Try.prog Try.f37 none (C m) [1, 0] ⟨[(2, .ptr h.n 0), (3, .ptr (h.n + 1) 0)], [], .none, H⟩ .nrm ⟨[(2, .ptr h.n 0), (3, .ptr (h.n + 1) 0)], [], .none, H⟩ := by
    rcases h1 with ⟨rfl, e1⟩ | ⟨b1, k1, rfl, q1, _⟩ <;> rcases h2 with ⟨rfl, e2⟩ | ⟨b2, k2, rfl, q2, _⟩ <;> (try (subst e1; simp at q2; done)) <;> (try (subst e2; simp at q1; done)) <;>
    rcases h3 with ⟨rfl, e3⟩ | ⟨b3, k3, rfl, q3, _⟩ <;> rcases h4 with ⟨rfl, e4⟩ | ⟨b4, k4, rfl, q4, _⟩ <;> (try (subst e3; simp at q4; done)) <;> (try (subst e4; simp at q3; done))
    · exact sa1nn_4 (C m) h.n (h.n + 1) cd nm t H (ld1 gp rfl) (ld1 gq rfl) f1 (ld1 gp rfl) (ld1 gq rfl) f2 (ld1 gp rfl) (ld1 gq rfl) f3 (ld1 gp rfl) (ld1 gq rfl) (ld1 gp rfl) (ld1 gq rfl)
    · exact sa1ns_5 (C m) h.n (h.n + 1) cd nm t b3 b4 l.length k3 k4 H (ld1 gp rfl) (ld1 gq rfl) f1 (ld1 gp rfl) (ld1 gq rfl) f2 (ld1 gp rfl) (ld1 gq rfl) f3 (ld1 gp rfl) (ld1 gq rfl) (ld1 gp rfl) (ld1 gq rfl) (f4 _)
    · exact sa1sn_5 (C m) h.n (h.n + 1) cd nm t b1 b2 ps.length k1 k2 H (ld1 gp rfl) (ld1 gq rfl) f1 (ld1 gp rfl) (ld1 gq rfl) f2 (ld1 gp rfl) (ld1 gq rfl) f3 (ld1 gp rfl) (ld1 gq rfl) (f4 _) (ld1 gp rfl) (ld1 gq rfl)
    · exact sa1ss_6 (C m) h.n (h.n + 1) cd nm t b1 b2 ps.length k1 k2 b3 b4 l.length k3 k4 H (ld1 gp rfl) (ld1 gq rfl) f1 (ld1 gp rfl) (ld1 gq rfl) f2 (ld1 gp rfl) (ld1 gq rfl) f3 (ld1 gp rfl) (ld1 gq rfl) (f4 _) (ld1 gp rfl) (ld1 gq rfl) (f4 _)
  have lp1 : ∃ H1, Ext H.n H H1 ∧ RunF Try.prog Try.f37 none (C m) [1, 1, 0, 1, 0] ⟨[(2, .ptr h.n 0), (3, .ptr (h.n + 1) 0), (5, .int .i64 (Int.ofNat 0))], [], .none, H⟩ (.exit 0) ⟨[(2, .ptr h.n 0), (3, .ptr (h.n + 1) 0)], [], .none, H1⟩ := by
    rcases h1 with ⟨rfl, e1⟩ | ⟨b1, k1, rfl, q1, g1, _, n1⟩
    · exact ⟨H, Ext.refl _ _, LoopF.run (p := [1, 1, 0, 1, 0]) (by kernel_rfl) (LoopF.exit (n := 0) (salz (C m) h.n (h.n + 1) H (ld1 gp rfl)) (by simp)) (by omega)⟩
    · rcases h2 with ⟨rfl, e2⟩ | ⟨b2, k2, rfl, q2, g2, _, n2⟩
      · subst e2; simp at q1
      · obtain ⟨H1, x, lp⟩ := sal_loop (C m) h.n (h.n + 1) b1 b2 k1 k2 ps hpb ps.length 0 H rfl (by omega) (ld1 gp rfl) (ld1 gq rfl) (fun i hi => str_at ((xH.get b1 n1).trans g1) hi) (fun i hi => str_at ((xH.get b2 n2).trans g2) hi)
        exact ⟨H1, x, LoopF.run (p := [1, 1, 0, 1, 0]) (by kernel_rfl) lp (by omega)⟩
  obtain ⟨H1, x1, lp1⟩ := lp1
  have gp1 := (x1.get h.n (by omega)).trans gp
  have gq1 := (x1.get (h.n + 1) (by omega)).trans gq
  have x01 : Ext h.n h H1 := xH.trans xH.n x1
  have lp2 : ∃ H2, Ext H1.n H1 H2 ∧ RunF Try.prog Try.f37 none (C m) [1, 1, 1, 0, 1, 0] ⟨[(2, .ptr h.n 0), (3, .ptr (h.n + 1) 0), (6, .int .i64 (Int.ofNat 0))], [], .none, H1⟩ (.exit 2) ⟨[(2, .ptr h.n 0), (3, .ptr (h.n + 1) 0)], [], .none, H2⟩ := by
    rcases h3 with ⟨rfl, e1⟩ | ⟨b1, k1, rfl, q1, g1, _, n1⟩
    · exact ⟨H1, Ext.refl _ _, LoopF.run (p := [1, 1, 1, 0, 1, 0]) (by kernel_rfl) (LoopF.exit (n := 0) (sdlz (C m) h.n (h.n + 1) H1 (ld1 gp1 rfl)) (by simp)) (by omega)⟩
    · rcases h4 with ⟨rfl, e2⟩ | ⟨b2, k2, rfl, q2, g2, _, n2⟩
      · subst e2; simp at q1
      · obtain ⟨H2, x, lp⟩ := sdl_loop (C m) h.n (h.n + 1) b1 b2 k1 k2 l hlb l.length 0 H1 rfl (by omega) (ld1 gp1 rfl) (ld1 gq1 rfl) (fun i hi => row_load (off := 0 + i * 3) (rest := []) encD_len (by rw [List.append_nil]; exact (x01.get b1 n1).trans g1) hi (by omega)) (fun i hi => row_load (off := 0 + i * 3) (rest := []) encD_len (by rw [List.append_nil]; exact (x01.get b2 n2).trans g2) hi (by omega))
        exact ⟨H2, x, LoopF.run (p := [1, 1, 1, 0, 1, 0]) (by kernel_rfl) lp (by omega)⟩
  obtain ⟨H2, x2, lp2⟩ := lp2
  have s2 := sa2 (C m) h.n (h.n + 1) H H1 (RunP.pre lp1 ⟨rfl, rfl, rfl, trivial⟩ rfl rfl rfl)
  have s3 := sa3 (C m) h.n (h.n + 1) H1 H2 (RunP.pre lp2 ⟨rfl, rfl, rfl, trivial⟩ rfl rfl rfl)
  refine ⟨H2, fn_runF (intr := Ii) (n := m) (args := [.agg [.int .i64 cd, .str t, w1, d1, .int .u64 nm], .agg [.int .i64 cd, .str t, w2, d2, .int .u64 nm]]) Try.func37 (by kernel_rfl) rfl (by kernel_rfl)
    (RunF.seq (p := []) (by kernel_rfl) s0 (RunF.seq (p := [1]) (by kernel_rfl) s1 (RunF.seq (p := [1, 1]) (by kernel_rfl) s2 (RunF.seq (p := [1, 1, 1]) (by kernel_rfl) s3 (RunP.pre (sa4 (C m) H2) trivial rfl rfl rfl))))) (.inl rfl) (by kernel_rfl), x01.trans x01.n x2⟩
end Go.Proofs.Wire

namespace Go.Proofs.Wire
open Go AEv Go.Proofs Go.Proofs.Enc
set_option maxRecDepth 100000
set_option maxHeartbeats 1000000

/-! ### MsgReads -/
theorem rspQ_same {B1 B2 : Nat} {h1 h2 : AHeap} {s : List UInt8} {v1 v2 : List AV} {e1 e2 : Nat} (hs : s.length ≤ 60000) (q1 : RspQ B1 h1 s v1 e1) (q2 : RspQ B2 h2 s v2 e2) :
    e1 = e2 ∧ ∃ cd nm t ps l w1 w2 d1 d2, v1 = [.int .i64 cd, .str t, w1, d1, .int .u64 nm] ∧ v2 = [.int .i64 cd, .str t, w2, d2, .int .u64 nm] ∧ RowK encS 1 9 B1 h1 w1 ps ∧ RowK encS 1 9 B2 h2 w2 ps ∧ RowK encD 3 35 B1 h1 d1 l ∧ RowK encD 3 35 B2 h2 d2 l ∧ ps.length < 90000 ∧ l.length < 90000 := by
  obtain ⟨ps, st4, r, c1⟩ := q1
  obtain ⟨ps', st4', r', c2⟩ := q2
  obtain ⟨rfl, rfl⟩ := readsT_uniq r r'
  have hlen : (textS st4).1.length ≤ 1000000 := by
    have h1 := (textS_len st4).2
    have h2 := readsT_left r
    have h3 := (anS3_len s).1
    omega
  rcases c1 with ⟨l, wp, wd, a1, a2, a3, rfl, rfl, a4, a5, a6, a7⟩ | ⟨b1, rfl, rfl⟩
  · rcases c2 with ⟨l', wp', wd', z1, z2, z3, rfl, rfl, z4, z5, z6, z7⟩ | ⟨z1, rfl, rfl⟩
    · have := good_uniq hlen a1 z1
      subst this
      exact ⟨rfl, _, _, _, ps, l, wp, wp', wd, wd', rfl, rfl, a4, z4, a5, z5, by omega, by omega⟩
    · exact absurd ⟨⟨l, a1⟩, a2, a3⟩ z1
  · rcases c2 with ⟨l', wp', wd', z1, z2, z3, rfl, rfl, z4, z5, z6, z7⟩ | ⟨z1, rfl, rfl⟩
    · exact absurd ⟨⟨l', z1⟩, z2, z3⟩ b1
    · exact ⟨rfl, _, _, _, [], [], .nilS, .nilS, .nilS, .nilS, rfl, rfl, .inl ⟨rfl, rfl⟩, .inl ⟨rfl, rfl⟩, .inl ⟨rfl, rfl⟩, .inl ⟨rfl, rfl⟩, by simp, by simp⟩
def eqR (k : Int) (a b c : List UInt8) (k' : Int) (a' b' c' : List UInt8) : Bool := eqI k k' && (beqBytes a a' && (beqBytes b b' && beqBytes c c'))
def eq4 (p q r s : Bool) : Option Bool := match some p with
  | some true => (match some q with
    | some true => (match some r with
      | some true => (match some s with
        | some true => some true
        | r => r)
      | r => r)
    | r => r)
  | r => r
theorem eq4_and (p q r s : Bool) : eq4 p q r s = some (p && (q && (r && s))) := by cases p <;> cases q <;> cases r <;> cases s <;> rfl
theorem eqA_rq (h : AHeap) (k : Int) (a b c : List UInt8) (k' : Int) (a' b' c' : List UInt8) : eqA Try.prog h 100 42 (.agg (rqV k a b c)) (.agg (rqV k' a' b' c')) = some (eqR k a b c k' a' b' c') := by
  have e : eqA Try.prog h 100 42 (.agg (rqV k a b c)) (.agg (rqV k' a' b' c')) = eq4 (eqI k k') (beqBytes a a') (beqBytes b b') (beqBytes c c') := by kernel_rfl
  rw [e, eq4_and]; rfl
theorem bin_rq (h : AHeap) (x y : Operand) (k : Int) (a b c : List UInt8) (k' : Int) (a' b' c' : List UInt8) : binA Try.prog h BinOp.eql 42 x y (.agg (rqV k a b c)) (.agg (rqV k' a' b' c')) = some (.bool (eqR k a b c k' a' b' c')) := by
  have ok : eqOK Try.prog 42 x y (.agg (rqV k a b c)) (.agg (rqV k' a' b' c')) = true := by kernel_rfl
  simp only [binA, ok, if_true, eqA_rq]
theorem mdV_rq (s : List UInt8) : ∃ k a b c, mdV s = rqV k a b c := by
  unfold mdV
  split
  · exact ⟨_, _, _, _, rfl⟩
  · exact ⟨_, _, _, _, rfl⟩
theorem resp_cells {B : Nat} {h : AHeap} {s : List UInt8} {vs : List AV} {e : Nat} (q : RspQ B h s vs e) : vs.length = 5 ∧ putCells 0 vs rsp0 = some vs := by
  obtain ⟨ps, st4, r, c1⟩ := q
  rcases c1 with ⟨l, wp, wd, a1, a2, a3, rfl, rfl, a4, a5, a6, a7⟩ | ⟨b1, rfl, rfl⟩
  · refine ⟨rfl, ?_⟩
    rcases rowK_shape a4 with rfl | ⟨_, _, _, rfl⟩ <;> rcases rowK_shape a5 with rfl | ⟨_, _, _, rfl⟩ <;> rfl
  · exact ⟨rfl, rfl⟩
theorem RspQ.mono {B B' : Nat} {h h' : AHeap} {s : List UInt8} {vs : List AV} {e : Nat} (q : RspQ B h s vs e) (x : Ext B' h h') (hB : h.n ≤ B') : RspQ B h' s vs e := by
  obtain ⟨ps, st4, r, c1⟩ := q
  refine ⟨ps, st4, r, ?_⟩
  rcases c1 with ⟨l, wp, wd, a1, a2, a3, a4, a5, a6, a7, a8⟩ | b1
  · exact .inl ⟨l, wp, wd, a1, a2, a3, a4, a5, a6.mono x hB, a7.mono x hB, a8⟩
  · exact .inr b1
theorem msgreads_c (s : List UInt8) (h : AHeap) : ∃ h', C 9 (.fn 9) [.str s] h = .ret (.bool true) h' := by
  obtain ⟨n, hn⟩ : ∃ n, n = min s.length 3000 := ⟨_, rfl⟩
  have hm := min_n s.length 3000
  rw [← hn] at hm
  have hsl : sliceA Try.prog h 9 (.str s) none (some (.int .i64 (Int.ofNat n))) none = some (.str (s.take n)) := slice_str_to strt (by omega)
  obtain ⟨u, hu⟩ : ∃ u, u = s.take n := ⟨_, rfl⟩
  have hul : u.length ≤ 3000 := by rw [hu, List.length_take]; omega
  rw [← hu] at hsl
  obtain ⟨k, a, b, c, hmd⟩ := mdV_rq u
  have s1 := mr1 (C 8) s h n u hm hsl
  obtain ⟨g1, c1, x1⟩ := mdecode_c 1 u h (by omega)
  rw [hmd] at c1
  have s2 : RunF Try.prog Try.f9 none (C 8) [1, 1, 0] ⟨[(0, .str u)], [], .none, h⟩ .nrm ⟨[(0, .str u), (3, .ptr g1.n 0), (4, .int .i64 (Int.ofNat (mdE u)))], [], .none, _⟩ := (mr2 _ _ _ _ _ _ _ _ _ _ (c1) (stcA rfl rfl))
  obtain ⟨G1, hG1⟩ : ∃ G1, G1 = (g1.push (.cells (rqV (Int.ofNat 0) [] [] []) 42 .own 0 0)).set g1.n (some (.cells (rqV k a b c) 42 .own 0 0)) := ⟨_, rfl⟩
  rw [← hG1] at s2
  have qG1 : G1.get g1.n = some (.cells (rqV k a b c) 42 .own 0 0) := by rw [hG1]; exact gsame rfl
  have nG1 : G1.n = g1.n + 1 := by rw [hG1]; rfl
  obtain ⟨g2, c2, x2⟩ := rmdecode_c 3 u G1 (by omega)
  have n2 := x2.n
  rw [hmd] at c2
  have s3 : RunF Try.prog Try.f9 none (C 8) [1, 1, 1, 0] ⟨[(0, .str u), (3, .ptr g1.n 0), (4, .int .i64 (Int.ofNat (mdE u)))], [], .none, G1⟩ .nrm ⟨[(0, .str u), (3, .ptr g1.n 0), (4, .int .i64 (Int.ofNat (mdE u))), (5, .ptr g2.n 0), (6, .int .i64 (Int.ofNat (mdE u)))], [], .none, _⟩ := (mr3 _ _ _ _ _ _ _ _ _ _ _ _ (c2) (stcA rfl rfl))
  obtain ⟨G2, hG2⟩ : ∃ G2, G2 = (g2.push (.cells (rqV (Int.ofNat 0) [] [] []) 42 .own 0 0)).set g2.n (some (.cells (rqV k a b c) 42 .own 0 0)) := ⟨_, rfl⟩
  rw [← hG2] at s3
  have qG2 : G2.get g2.n = some (.cells (rqV k a b c) 42 .own 0 0) := by rw [hG2]; exact gsame rfl
  have nG2 : G2.n = g2.n + 1 := by rw [hG2]; rfl
  have xG2 : Ext g2.n g2 G2 := by rw [hG2]; exact exA
  have pG2 : G2.get g1.n = some (.cells (rqV k a b c) 42 .own 0 0) := (xG2.get g1.n (by omega)).trans ((x2.get g1.n (by omega)).trans qG1)
  obtain ⟨v3, e3, g3, c3, x3, r3⟩ := answered_c 0 u G2 (by omega)
  have n3 := x3.n
  obtain ⟨l3, pc3⟩ := resp_cells r3
  obtain ⟨G3, hG3⟩ : ∃ G3, G3 = (g3.push (.cells rsp0 54 .own 0 0)).set g3.n (some (.cells v3 54 .own 0 0)) := ⟨_, rfl⟩
  have s4 : RunF Try.prog Try.f9 none (C 8) [1, 1, 1, 1, 0] ⟨[(0, .str u), (3, .ptr g1.n 0), (4, .int .i64 (Int.ofNat (mdE u))), (5, .ptr g2.n 0), (6, .int .i64 (Int.ofNat (mdE u)))], [], .none, G2⟩ .nrm ⟨[(0, .str u), (3, .ptr g1.n 0), (4, .int .i64 (Int.ofNat (mdE u))), (5, .ptr g2.n 0), (6, .int .i64 (Int.ofNat (mdE u))), (7, .ptr g3.n 0), (8, .int .i64 (Int.ofNat e3))], [], .none, G3⟩ := by
    rw [hG3]
    exact mr4 (C 8) u v3 e3 g1.n g2.n _ _ G2 g3 _ c3 ⟨by rw [l3], stc (gtop rfl) (by rw [l3]; rfl) pc3, rfl⟩
  have qG3 : G3.get g3.n = some (.cells v3 54 .own 0 0) := by rw [hG3]; exact gsame rfl
  have nG3 : G3.n = g3.n + 1 := by rw [hG3]; rfl
  have xG3 : Ext g3.n g3 G3 := by rw [hG3]; exact exA
  obtain ⟨v4, e4, g4, c4, x4, r4⟩ := ranswered_c 2 u G3 (by omega)
  have n4 := x4.n
  obtain ⟨l4, pc4⟩ := resp_cells r4
  obtain ⟨G4, hG4⟩ : ∃ G4, G4 = (g4.push (.cells rsp0 54 .own 0 0)).set g4.n (some (.cells v4 54 .own 0 0)) := ⟨_, rfl⟩
  have s5 : RunF Try.prog Try.f9 none (C 8) [1, 1, 1, 1, 1, 0] ⟨[(0, .str u), (3, .ptr g1.n 0), (4, .int .i64 (Int.ofNat (mdE u))), (5, .ptr g2.n 0), (6, .int .i64 (Int.ofNat (mdE u))), (7, .ptr g3.n 0), (8, .int .i64 (Int.ofNat e3))], [], .none, G3⟩ .nrm ⟨[(3, .ptr g1.n 0), (4, .int .i64 (Int.ofNat (mdE u))), (5, .ptr g2.n 0), (6, .int .i64 (Int.ofNat (mdE u))), (7, .ptr g3.n 0), (8, .int .i64 (Int.ofNat e3)), (9, .ptr g4.n 0), (10, .int .i64 (Int.ofNat e4))], [], .none, G4⟩ := by
    rw [hG4]
    exact mr5 (C 8) u v4 e4 g1.n g2.n g3.n _ _ _ G3 g4 _ c4 ⟨by rw [l4], stc (gtop rfl) (by rw [l4]; rfl) pc4, rfl⟩
  have qG4 : G4.get g4.n = some (.cells v4 54 .own 0 0) := by rw [hG4]; exact gsame rfl
  have xG4 : Ext g4.n g4 G4 := by rw [hG4]; exact exA
  have x34 : Ext G3.n G3 G4 := x4.trans x4.n xG4
  have pG4 : G4.get g3.n = some (.cells v3 54 .own 0 0) := (x34.get g3.n (by omega)).trans qG3
  have x24 : Ext g3.n g3 G4 := xG3.trans (by omega) x34
  have x2 : Ext G2.n G2 G4 := x3.trans x3.n x24
  have q1 := (x2.get g1.n (by omega)).trans pG2
  have q2 := (x2.get g2.n (by omega)).trans qG2
  obtain ⟨rfl, cd, nm, t, ps, l, w1, w2, d1, d2, rfl, rfl, k1, k2, k3, k4, hpb, hlb⟩ := rspQ_same (by omega) (r3.mono x24 (Nat.le_refl _)) (r4.mono xG4 (Nat.le_refl _))
  obtain ⟨g5, c5, x5⟩ := rsame27_c 7 _ _ _ _ cd nm t ps l w1 w2 d1 d2 G4 k1 k2 k3 k4 hpb hlb
  have br := bin_rq G4 (Operand.tmp 36) (Operand.tmp 37) k a b c k a b c
  have er : eqR k a b c k a b c = true := by simp [eqR, eqI_self, bbr]
  rw [er] at br
  have s6 := mr6_1 (C 8) _ _ a b c k (mdE u) e3 g1.n g2.n g3.n g4.n G4 g5 g5 (load4 rfl q1) (load4 rfl q2) br (eqI_self _) (load5 rfl pG4) (load5 rfl qG4) c5 (eqI_self _) (works27_c 7 g5)
  exact ⟨g5, fn_runF (intr := Ii) (n := 8) (args := [.str s]) Try.func9 (by kernel_rfl) rfl (by kernel_rfl)
    (RunF.seq (p := []) (by kernel_rfl) (mr0 (C 8) s h) (RunF.seq (p := [1]) (by kernel_rfl) s1 (RunF.seq (p := [1, 1]) (by kernel_rfl) s2 (RunF.seq (p := [1, 1, 1]) (by kernel_rfl) s3 (RunF.seq (p := [1, 1, 1, 1]) (by kernel_rfl) s4 (RunF.seq (p := [1, 1, 1, 1, 1]) (by kernel_rfl) s5 s6)))))) (.inl rfl) (by kernel_rfl)⟩
end Go.Proofs.Wire
