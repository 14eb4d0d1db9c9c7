/-
  PROVED HERE: contracts of functions (Sxb). No condition beside each statement's own.
-/
import Derived.Test.YtlcnhahfgpnanaaGreatDoorSxa
set_option linter.unusedVariables false
set_option linter.unusedSimpArgs false
namespace AEv
open Go

section
variable {D : Type}

/-- The cells of a row of elements. -/
def rowL (enc : D → List AV) (ds : List D) : List AV := ds.flatMap enc
theorem rowL_len {enc : D → List AV} {w : Nat} (hw : ∀ d, (enc d).length = w) : ∀ ds : List D, (rowL enc ds).length = ds.length * w
  | [] => by simp [rowL]
  | d :: ds => by
    have := rowL_len hw ds
    unfold rowL at this ⊢
    rw [List.flatMap_cons, List.length_append, hw, this, List.length_cons, Nat.add_mul]; omega
theorem rowL_app (enc : D → List AV) (l m : List D) : rowL enc (l ++ m) = rowL enc l ++ rowL enc m := by simp [rowL]
theorem rowL_cons (enc : D → List AV) (d : D) (m : List D) : rowL enc (d :: m) = enc d ++ rowL enc m := rfl
section
variable {enc : D → List AV} {w : Nat}
theorem row_cells (hc : ∀ d, (enc d).all AV.isCell = true) : ∀ ds : List D, (rowL enc ds).all AV.isCell = true
  | [] => rfl
  | d :: ds => by rw [rowL_cons, List.all_append, hc, row_cells hc ds]; rfl
end
end
end AEv

namespace AEv
open Go

/-- Facts of a type of rows. -/
structure RowTy {D : Type} (P : Program) (enc : D → List AV) (w : Nat) (el sT : TypeId) : Prop where
  hu : P.underlying sT = some (.slice el)
  hsrc : srcOK P (some sT) = true
  info : ∃ i, P.info? el = some i ∧ i.size = w ∧ i.bytes ≤ 1000
  zero : ∃ z, zeroT P el = some z ∧ z.cells.length = w
  size : sizeT P el = some w
  len : ∀ d, (enc d).length = w
  cell : ∀ d, (enc d).all AV.isCell = true
  pos : 0 < w

section
variable {D : Type} {P : Program} {enc : D → List AV} {w : Nat} {el sT : TypeId}
/-- A row of one's own, all of its block. -/
def OutG (enc : D → List AV) (w : Nat) (el : TypeId) (B : Nat) (h : AHeap) (v : AV) (ds : List D) : Prop :=
  (v = .nilS ∧ ds = []) ∨ ∃ p, v = .slice p 0 ds.length (.opn w) ∧ 0 < ds.length ∧ h.get p = some (.cells (rowL enc ds) el .opn 0 0) ∧ B ≤ p ∧ p < h.n
theorem OutG.le {B B' : Nat} {h : AHeap} {v : AV} {ds : List D} (hB : B ≤ B') : OutG enc w el B' h v ds → OutG enc w el B h v ds
  | .inl h => .inl h
  | .inr ⟨p, h1, h2, h3, h4, h5⟩ => .inr ⟨p, h1, h2, h3, Nat.le_trans hB h4, h5⟩
theorem OutG.ne {B : Nat} {h : AHeap} {v : AV} {ds : List D} (ho : OutG enc w el B h v ds) {c : Nat} {cs : List AV} {el' lo up : Nat} {k : BK} (hg : h.get c = some (.cells cs el' k lo up)) (hk : k ≠ .opn ∨ el' ≠ el) : ∀ n cp, v ≠ .slice c 0 n cp := by
  intro n cp e
  rcases ho with ⟨rfl, _⟩ | ⟨p, rfl, h2, h3, h4, h5⟩
  · cases e
  · cases e
    rw [hg] at h3
    cases h3
    rcases hk with h | h <;> exact h rfl
/-- A row is kept when others are appended to. -/
theorem OutG.keep {B : Nat} {h h' : AHeap} {v : AV} {ds : List D} (ho : OutG enc w el B h v ds) (hn : h.n ≤ h'.n) (hk : ∀ p, v = .slice p 0 ds.length (.opn w) → p < h.n → h'.get p = h.get p) : OutG enc w el B h' v ds := by
  rcases ho with ho | ⟨q, rfl, h2, h3, h4, h5⟩
  · exact .inl ho
  · exact .inr ⟨q, rfl, h2, (hk q rfl h5).trans h3, h4, by omega⟩
theorem OutG.setOwn {B : Nat} {h : AHeap} {v : AV} {ds : List D} (ho : OutG enc w el B h v ds) {c : Nat} {cs : List AV} {el' : Nat} {o : Option AObj} (hc : h.get c = some (.cells cs el' .own 0 0)) : OutG enc w el B (h.set c o) v ds := by
  rcases ho with ho | ⟨p, h1, h2, h3, h4, h5⟩
  · exact .inl ho
  · exact .inr ⟨p, h1, h2, gother (fun e => by subst e; rw [hc] at h3; cases h3) h3, h4, by simpa using h5⟩
theorem OutG.sound {B : Nat} {h : AHeap} {v : AV} {ds : List D} (ho : OutG enc w el B h v ds) : AV.sound v = true := by
  rcases ho with ⟨rfl, _⟩ | ⟨p, rfl, _⟩ <;> rfl
theorem appG_none (T : RowTy P enc w el sT) {h : AHeap} {src : AV} (hs : srcCells h w src = some (0, [])) : appendA P h sT (some sT) .nilS src = some (.nilS, h) := by
  obtain ⟨i, hi, hsz, _⟩ := T.info
  obtain ⟨z, hz, _⟩ := T.zero
  simp only [appendA, T.hu, T.hsrc, hi, hz, hsz, hs]
theorem appG_new (T : RowTy P enc w el sT) {h : AHeap} {src : AV} {es : List D} (hs : srcCells h w src = some (es.length, rowL enc es)) (h0 : 0 < es.length) (hl : es.length ≤ 1000000) : appendA P h sT (some sT) .nilS src = some (.slice h.n 0 es.length (.opn w), h.push (.cells (rowL enc es) el .opn 0 0)) := by
  obtain ⟨i, hi, hsz, hby⟩ := T.info
  obtain ⟨z, hz, hzc⟩ := T.zero
  obtain ⟨k, hk⟩ : ∃ k, es.length = k + 1 := ⟨es.length - 1, by omega⟩
  have hro : roomOK (k + 1) i.bytes = true := by
    unfold roomOK
    have h1 : (4 * (k + 1) + 2048) * (i.bytes + 1) ≤ 5000000 * 1001 := Nat.mul_le_mul (by omega) (by omega)
    simp; omega
  have hgr : growA h el i.bytes w (k + 1) z (rowL enc es) 0 = some (.slice h.n 0 (k + 1) (.opn w), h.push (.cells (rowL enc es) el .opn 0 0)) :=
    growA_ok hro (by rw [hzc]; simp) (row_cells T.cell es)
  rw [hk] at hs ⊢
  simp only [appendA, T.hu, T.hsrc, hi, hz, hsz, hs, hgr]
theorem appG_more (T : RowTy P enc w el sT) {h : AHeap} {src : AV} {p : Nat} {ds es : List D} (hg : h.get p = some (.cells (rowL enc ds) el .opn 0 0)) (hs : srcCells h w src = some (es.length, rowL enc es)) (h0 : 0 < es.length) (hl : ds.length + es.length ≤ 1000000) :
    appendA P h sT (some sT) (.slice p 0 ds.length (.opn w)) src = some (.slice h.n 0 (ds.length + es.length) (.opn w), (h.set p none).push (.cells (rowL enc (ds ++ es)) el .opn 0 0)) := by
  obtain ⟨i, hi, hsz, hby⟩ := T.info
  obtain ⟨z, hz, hzc⟩ := T.zero
  obtain ⟨k, hk⟩ : ∃ k, es.length = k + 1 := ⟨es.length - 1, by omega⟩
  have hro : roomOK (ds.length + (k + 1)) i.bytes = true := by
    unfold roomOK
    have h1 : (4 * (ds.length + (k + 1)) + 2048) * (i.bytes + 1) ≤ 5000000 * 1001 := Nat.mul_le_mul (by omega) (by omega)
    simp; omega
  have hgr : growA (h.set p none) el i.bytes w (ds.length + (k + 1)) z (rowL enc ds ++ rowL enc es) (0 - 0) = some (.slice (h.set p none).n 0 (ds.length + (k + 1)) (.opn w), (h.set p none).push (.cells (rowL enc ds ++ rowL enc es) el .opn 0 0)) :=
    growA_ok hro (by rw [hzc]; simp) (by rw [List.all_append, row_cells T.cell, row_cells T.cell]; rfl)
  have hb1 : (Nat.beq w w && Nat.blt 0 w) = true := by
    have := T.pos
    simp [Nat.blt_eq]; omega
  have hlen := rowL_len T.len ds
  have hble : Nat.ble (0 + (ds.length + (k + 1)) * w) (rowL enc ds).length = false := by
    cases hx : Nat.ble (0 + (ds.length + (k + 1)) * w) (rowL enc ds).length with
    | false => rfl
    | true =>
      have := Nat.le_of_ble_eq_true hx
      rw [hlen, Nat.add_mul, Nat.add_mul] at this
      have := T.pos
      omega
  have hcond : (Nat.ble 0 (0 + ds.length * w) && Nat.beq el el) = true := by simp
  have hld : AEv.loadCells h p 0 (ds.length * w) = some (rowL enc ds) := by
    have := load_row (h := h) (xs := rowL enc ds) (rest := []) (by rw [List.append_nil]; exact hg)
    rwa [hlen] at this
  rw [hk] at hs ⊢
  rw [rowL_app]
  simp only [appendA, T.hu, T.hsrc, hi, hz, hsz, hs, hb1, hg, hble, hcond, hld, hgr]
  rfl
/-- Appending: what comes, and what stays. -/
theorem appG (T : RowTy P enc w el sT) {B : Nat} {h : AHeap} {v src : AV} {ds es : List D} (ho : OutG enc w el B h v ds) (hB : B ≤ h.n) (hs : srcCells h w src = some (es.length, rowL enc es)) (hl : ds.length + es.length ≤ 1000000) :
    ∃ v' h', appendA P h sT (some sT) v src = some (v', h') ∧ OutG enc w el B h' v' (ds ++ es) ∧ Ext B h h' ∧ h.n ≤ h'.n ∧ ∀ c, c < h.n → (∀ n cp, v ≠ .slice c 0 n cp) → h'.get c = h.get c := by
  by_cases h0 : es.length = 0
  · have he : es = [] := List.eq_nil_of_length_eq_zero h0
    subst he
    refine ⟨v, h, ?_, by rw [List.append_nil]; exact ho, Ext.refl _ _, Nat.le_refl _, fun _ _ _ => rfl⟩
    rcases ho with ⟨rfl, _⟩ | ⟨p, rfl, h2, h3, h4, h5⟩
    · exact appG_none T hs
    · obtain ⟨i, hi, hsz, hby⟩ := T.info
      obtain ⟨z, hz, hzc⟩ := T.zero
      have hb1 : (Nat.beq w w && Nat.blt 0 w) = true := by
        have := T.pos
        simp [Nat.blt_eq]; omega
      have hs' : srcCells h w src = some (0, rowL enc []) := hs
      simp only [appendA, T.hu, T.hsrc, hi, hz, hsz, hs', hb1]
  · rcases ho with ⟨rfl, rfl⟩ | ⟨p, rfl, h2, h3, h4, h5⟩
    · rw [List.nil_append]
      exact ⟨_, _, appG_new T hs (by omega) (by simp at hl; omega), .inr ⟨h.n, rfl, by omega, gtop rfl, hB, by simp⟩, Ext.pushR hB (Ext.refl _ _), by simp, fun c hc _ => gold hc rfl⟩
    · refine ⟨_, _, appG_more T h3 hs (by omega) hl, .inr ⟨h.n, by rw [List.length_append], by rw [List.length_append]; omega, by exact gtop (by simp), hB, by simp⟩, ?_, by simp, fun c hc hw => ?_⟩
      · exact Ext.pushR (by simp; omega) (Ext.setR h4 (Ext.refl _ _))
      · exact gold (by simpa using hc) (gother (fun e => hw _ _ (by rw [e])) rfl)
end
end AEv

namespace AEv
open Go

theorem bv_nat {w x : Nat} (h : x < 2 ^ w) : (BitVec.ofInt w (Int.ofNat x)).toNat = x := by
  show (BitVec.ofInt w ((x : Nat) : Int)).toNat = x
  rw [BitVec.ofInt_natCast, BitVec.toNat_ofNat, Nat.mod_eq_of_lt h]
theorem wrap_i32 (n : Nat) (h : n < 2147483648) : IntKind.wrap .i32 (n : Int) = (n : Int) := by
  have e2 : (2 : Int) ^ 32 = 4294967296 := by rfl
  have e3 : (2 : Int) ^ 31 = 2147483648 := by rfl
  have e : ((n : Int) % 4294967296) = n := by omega
  have hd : decide ((n : Int) ≥ 2147483648) = false := by simp; omega
  simp only [IntKind.wrap, IntKind.bits, IntKind.signed, e2, e, Bool.true_and, Nat.add_one_sub_one, e3, Nat.reduceSub]
  have : ¬ ((n : Int) ≥ 2147483648) := by omega
  first
    | simp [this]
    | (simp only [hd, Bool.false_eq_true, if_false])
theorem and_j (j : Nat) {x : Nat} (hx : x < 256) (hj : j ≤ 8) : arith BinOp.and IntKind.u8 (Int.ofNat x) (Int.ofNat (2 ^ j - 1)) = some (AV.int IntKind.u8 (Int.ofNat (x % 2 ^ j))) := by
  have hp : 2 ^ j ≤ 2 ^ 8 := Nat.pow_le_pow_right (by omega) hj
  have h1 := bv_nat (w := 8) (x := x) (by omega)
  have h2 := bv_nat (w := 8) (x := 2 ^ j - 1) (by have := Nat.two_pow_pos j; omega)
  have h3 := wrap_u8 (x % 2 ^ j)
  have h4 : x % 2 ^ j % 256 = x % 2 ^ j := Nat.mod_eq_of_lt (by have := Nat.mod_le x (2 ^ j); omega)
  rw [h4] at h3
  show some (AV.int IntKind.u8 (IntKind.wrap .u8 (((BitVec.ofInt 8 (Int.ofNat x) &&& BitVec.ofInt 8 (Int.ofNat (2 ^ j - 1))).toNat : Nat) : Int))) = _
  rw [BitVec.toNat_and, h1, h2, Nat.and_two_pow_sub_one_eq_mod, h3]; rfl
theorem or_nat {q b j : Nat} (hb : b < 2 ^ j) : q * 2 ^ j ||| b = q * 2 ^ j + b := by
  have := Nat.shiftLeft_add_eq_or_of_lt (a := q) hb
  rw [Nat.shiftLeft_eq] at this
  exact this.symm
theorem or_u8 (j : Nat) {q b : Nat} (hb : b < 2 ^ j) (h : q * 2 ^ j + b < 256) : arith BinOp.or IntKind.u8 (Int.ofNat (q * 2 ^ j)) (Int.ofNat b) = some (AV.int IntKind.u8 (Int.ofNat (q * 2 ^ j + b))) := by
  have h1 := bv_nat (w := 8) (x := q * 2 ^ j) (by omega)
  have h2 := bv_nat (w := 8) (x := b) (by omega)
  have h3 := wrap_u8 (q * 2 ^ j + b)
  rw [Nat.mod_eq_of_lt h] at h3
  show some (AV.int IntKind.u8 (IntKind.wrap .u8 (((BitVec.ofInt 8 (Int.ofNat (q * 2 ^ j)) ||| BitVec.ofInt 8 (Int.ofNat b)).toNat : Nat) : Int))) = _
  rw [BitVec.toNat_or, h1, h2, or_nat hb, h3]; rfl
theorem or_i32 (j : Nat) {q b : Nat} (hb : b < 2 ^ j) (h : q * 2 ^ j + b < 2147483648) : arith BinOp.or IntKind.i32 (Int.ofNat (q * 2 ^ j)) (Int.ofNat b) = some (AV.int IntKind.i32 (Int.ofNat (q * 2 ^ j + b))) := by
  have h1 := bv_nat (w := 32) (x := q * 2 ^ j) (by omega)
  have h2 := bv_nat (w := 32) (x := b) (by omega)
  have h3 := wrap_i32 (q * 2 ^ j + b) h
  show some (AV.int IntKind.i32 (IntKind.wrap .i32 (((BitVec.ofInt 32 (Int.ofNat (q * 2 ^ j)) ||| BitVec.ofInt 32 (Int.ofNat b)).toNat : Nat) : Int))) = _
  rw [BitVec.toNat_or, h1, h2, or_nat hb, h3]; rfl
theorem or_i32' (j : Nat) {p b : Nat} (hp : p % 2 ^ j = 0) (hb : b < 2 ^ j) (h : p + b < 2147483648) : arith BinOp.or IntKind.i32 (Int.ofNat p) (Int.ofNat b) = some (AV.int IntKind.i32 (Int.ofNat (p + b))) := by
  have e : p = p / 2 ^ j * 2 ^ j := by
    have := Nat.div_add_mod p (2 ^ j)
    rw [hp, Nat.add_zero, Nat.mul_comm] at this
    exact this.symm
  rw [e] at h ⊢
  exact or_i32 j hb h
theorem or_u8' (j : Nat) {p b : Nat} (hp : p % 2 ^ j = 0) (hb : b < 2 ^ j) (h : p + b < 256) : arith BinOp.or IntKind.u8 (Int.ofNat p) (Int.ofNat b) = some (AV.int IntKind.u8 (Int.ofNat (p + b))) := by
  have e : p = p / 2 ^ j * 2 ^ j := by
    have := Nat.div_add_mod p (2 ^ j)
    rw [hp, Nat.add_zero, Nat.mul_comm] at this
    exact this.symm
  rw [e] at h ⊢
  exact or_u8 j hb h
theorem shl_i32 (j : Nat) {x : Nat} (hj : j ≤ 32) (h : x * 2 ^ j < 2147483648) : shiftA BinOp.shl IntKind.i32 (Int.ofNat x) (Int.ofNat j) = some (AV.int IntKind.i32 (Int.ofNat (x * 2 ^ j))) := by
  have hn : ¬ (Int.ofNat j < 0) := by
    have e1 : Int.ofNat j = (j : Int) := rfl
    rw [e1]; omega
  have e1 : (Int.ofNat j).toNat = j := rfl
  have e2 : min j IntKind.i32.bits = j := by show min j 32 = j; omega
  have e3 : Int.ofNat x * 2 ^ j = ((x * 2 ^ j : Nat) : Int) := by
    show ((x : Nat) : Int) * 2 ^ j = _
    norm_cast
  have h3 := wrap_i32 (x * 2 ^ j) h
  simp only [shiftA, if_neg hn, e1, e2, e3, h3]; rfl
theorem cv_u8_i32 {P : Program} {a b : TypeId} {n : Nat} {h : AHeap} (ha : P.underlying a = some (.int .u8)) (hb : P.underlying b = some (.int .i32)) (hn : n < 256) : evConvert P a b (.int .u8 (Int.ofNat n)) h = .val (.int .i32 (Int.ofNat n)) h :=
  conv_int ha hb (wrap_i32 n (by omega))
theorem cv_i32_u8 {P : Program} {a b : TypeId} {n : Nat} {h : AHeap} (ha : P.underlying a = some (.int .i32)) (hb : P.underlying b = some (.int .u8)) : evConvert P a b (.int .i32 (Int.ofNat n)) h = .val (.int .u8 (Int.ofNat (n % 256))) h :=
  conv_int ha hb (wrap_u8 n)
theorem wrap_u32 (n : Nat) (h : n < 4294967296) : IntKind.wrap .u32 (n : Int) = (n : Int) := by
  have e : ((n : Int) % 4294967296) = n := by omega
  have e2 : (2 : Int) ^ 32 = 4294967296 := by rfl
  simp only [IntKind.wrap, IntKind.bits, IntKind.signed, e2, e, Bool.false_and, if_neg Bool.false_ne_true]
theorem cv_i32_u32 {P : Program} {a b : TypeId} {n : Nat} {h : AHeap} (ha : P.underlying a = some (.int .i32)) (hb : P.underlying b = some (.int .u32)) (hn : n < 4294967296) : evConvert P a b (.int .i32 (Int.ofNat n)) h = .val (.int .u32 (Int.ofNat n)) h :=
  conv_int ha hb (wrap_u32 n hn)
theorem cv_u8_i64 {P : Program} {a b : TypeId} {n : Nat} {h : AHeap} (ha : P.underlying a = some (.int .u8)) (hb : P.underlying b = some (.int .i64)) (hn : n < 256) : evConvert P a b (.int .u8 (Int.ofNat n)) h = .val (.int .i64 (Int.ofNat n)) h :=
  conv_int ha hb (wrap_nat n (by omega))
section
variable {P : Program}
theorem appendBs {B : Nat} {h : AHeap} {v src : AV} {w s : List UInt8} {sT e : TypeId} {xT : Option TypeId} {i : TypeInfo} {z : AV} (hB : B ≤ h.n) (hu : P.underlying sT = some (.slice e)) (hsrc : srcOK P xT = true) (hi : P.info? e = some i) (hsz : i.size = 1) (hz : zeroT P e = some z) (hzc : z.cells.length = 1)
    (hroom : roomOK (w.length + s.length) i.bytes = true) (hsc : srcCells h 1 src = some (s.length, byteCells s)) (hr : Buf B e h v w) :
    ∃ v' h', appendA P h sT xT v src = some (v', h') ∧ Buf B e h' v' (w ++ s) ∧ Ext B h h' := by
  have hzb : Nat.beq z.cells.length 1 = true := by rw [hzc]; rfl
  rcases hr with ⟨rfl, rfl⟩ | ⟨c, rest, rfl, hg, hc1, hc2⟩
  · cases s with
    | nil => exact ⟨.nilS, h, by simp only [appendA, hu, hsrc, hi, hz, hsz, hsc]; rfl, .inl ⟨rfl, rfl⟩, Ext.refl _ _⟩
    | cons a s =>
      have hroom' : roomOK (a :: s).length i.bytes = true := by simpa using hroom
      have hg1 := growA_ok (h := h) (e := e) (fz := 0) hroom' hzb (byteCells_cell (a :: s))
      refine ⟨.slice h.n 0 (a :: s).length (.opn 1), h.push (.cells (byteCells (a :: s)) e .opn 0 0), ?_, .inr ⟨h.n, [], by simp, by rw [AHeap.get_push, if_pos rfl]; simp, hB, by simp⟩, Ext.push hB _⟩
      rw [← hg1]
      simp only [appendA, hu, hsrc, hi, hz, hsz, hsc]
      rfl
  · cases s with
    | nil => exact ⟨.slice c 0 w.length (.opn 1), h, by simp only [appendA, hu, hsrc, hi, hz, hsz, hsc]; rfl, .inr ⟨c, rest, by simp, by simpa using hg, hc1, hc2⟩, Ext.refl _ _⟩
    | cons a s =>
      have hb1' : (Nat.beq 1 1 && Nat.blt 0 1) = true := rfl
      by_cases hfit : (a :: s).length ≤ rest.length
      · have hble : Nat.ble (0 + (w.length + (a :: s).length) * 1) (byteCells w ++ rest).length = true := by
          simp only [Nat.ble_eq, List.length_append, byteCells_len]; omega
        have hp := putCells_from (byteCells w) (byteCells (a :: s)) rest (byteCells_cell _) (by rw [byteCells_len]; exact hfit)
        have hw : writable .opn 0 0 (0 + w.length * 1) (byteCells (a :: s)).length = true := by unfold writable; simp
        have hp' : putCells (0 + w.length * 1) (byteCells (a :: s)) (byteCells w ++ rest) = some (byteCells w ++ (byteCells (a :: s) ++ rest.drop (byteCells (a :: s)).length)) := by
          rw [← hp, byteCells_len]; simp
        refine ⟨.slice c 0 (w.length + (a :: s).length) (.opn 1), h.set c (some (.cells (byteCells w ++ (byteCells (a :: s) ++ rest.drop (byteCells (a :: s)).length)) e .opn 0 0)), ?_, .inr ⟨c, rest.drop (byteCells (a :: s)).length, by simp, by rw [AHeap.get_set, if_pos rfl, byteCells_app]; simp, hc1, by simpa using hc2⟩, Ext.set hc1 _⟩
        simp only [appendA, hu, hsrc, hi, hz, hsz, hsc]
        simp only [hb1', List.length_cons, hg]
        simp only [List.length_cons] at hble hp' hw
        simp only [hble, AEv.storeCells, hg, hw, hp']
      · have hble : Nat.ble (0 + (w.length + (a :: s).length) * 1) (byteCells w ++ rest).length = false := by
          cases hb : Nat.ble (0 + (w.length + (a :: s).length) * 1) (byteCells w ++ rest).length with
          | false => rfl
          | true => simp only [Nat.ble_eq, List.length_append, byteCells_len] at hb; omega
        have hl : loadCells h c 0 (w.length * 1) = some (byteCells w) := by
          have := load_row (xs := byteCells w) hg
          rw [byteCells_len] at this; simpa using this
        have hall : (byteCells w ++ byteCells (a :: s)).all AV.isCell = true := by rw [← byteCells_app]; exact byteCells_cell _
        have hbe : (Nat.ble 0 (0 + w.length * 1) && Nat.beq e e) = true := by simp
        have hg1 := growA_ok (h := h.set c none) (e := e) (fz := 0 - 0) hroom hzb hall
        refine ⟨.slice (h.set c none).n 0 (w.length + (a :: s).length) (.opn 1), (h.set c none).push (.cells (byteCells w ++ byteCells (a :: s)) e .opn 0 0), ?_, .inr ⟨(h.set c none).n, [], by simp, by rw [AHeap.get_push, if_pos rfl, byteCells_app]; simp, by simp; omega, by simp⟩,
          (Ext.set hc1 none).trans (Nat.le_refl _) (Ext.push (by simp; omega) _)⟩
        simp only [List.length_cons] at hble hg1
        simp only [appendA, hu, hsrc, hi, hz, hsz, hsc]
        simp only [hb1', List.length_cons, hg]
        simp only [hble, hl, hbe, hg1]

end
/-! ### Ways of a choice; a scope -/
def isCond (t : Nat) : Code → Bool
  | .cond (.tmp u) _ _ => Nat.beq u t
  | _ => false
theorem isCond_eq {c : Code} {t : Nat} (h : isCond t c = true) : c = .cond (.tmp t) (sub c [0]) (sub c [1]) := by
  cases c with
  | cond x a b =>
    cases x with
    | tmp u =>
      obtain rfl := Nat.eq_of_beq_eq_true (show Nat.beq u t = true from h)
      simp [sub]
    | _ => simp [isCond] at h
  | _ => simp [isCond] at h
def isScope : Code → Bool
  | .scope _ => true
  | _ => false
theorem isScope_eq {c : Code} (h : isScope c = true) : c = .scope (sub c [0]) := by
  cases c <;> simp [isScope, sub] at h ⊢
section
variable {P : Program} {rd : Option Nat} {call : CallT → List AV → AHeap → FRes} {fn : Func}
theorem RunP.cond {need t : Nat} {a b : Code} {Γ : Env} {d : List ADef} {q : Rc} {h : AHeap} {e : AEx} {st' : SSt} {x : Bool} (hn : Nat.testBit need t = true) (hl : lk t Γ = some (.bool x)) (h1 : RunP P need rd call (if x then a else b) ⟨Γ, d, q, h⟩ e st') : RunP P need rd call (.cond (.tmp t) a b) ⟨Γ, d, q, h⟩ e st' := by
  intro r hr
  obtain ⟨r1, e1, m1⟩ := h1 r hr
  have hg : getAcc 0 [] r (accOf P need [] (.tmp t)) = .bool x := by
    simp only [accOf, findLoc, hn, getAcc]
    exact hr t _ hl
  refine ⟨r1, ?_, m1⟩
  simp only [evCode, hg]
  cases x <;> simpa using e1
theorem RunF.cond {p : List Nat} {t : Nat} {Γ : Env} {d : List ADef} {q : Rc} {h : AHeap} {e : AEx} {st' : SSt} {x : Bool} (hs : isCond t (sub (bodyOf fn) p) = true) (hn : Nat.testBit (needFn fn) t = true) (hl : lk t Γ = some (.bool x)) (h1 : RunF P fn rd call (p ++ [if x then 0 else 1]) ⟨Γ, d, q, h⟩ e st') : RunF P fn rd call p ⟨Γ, d, q, h⟩ e st' := by
  unfold RunF at *
  rw [isCond_eq hs]
  refine RunP.cond hn hl ?_
  cases x <;> (rw [sub_app] at h1; simpa using h1)
theorem RunF.scope {p : List Nat} {st : SSt} {e : AEx} {st' : SSt} (hs : isScope (sub (bodyOf fn) p) = true) (h1 : RunF P fn rd call (p ++ [0]) st e st') : RunF P fn rd call p st e st' := by
  unfold RunF at *
  rw [isScope_eq hs]
  rw [sub_app] at h1
  intro r hr
  obtain ⟨r1, e1, m1⟩ := h1 r hr
  exact ⟨r1, by simp only [evCode]; exact e1, m1⟩
end
theorem conv_rune {P : Program} {a b : TypeId} {k k' : IntKind} {n : Int} {h : AHeap} (ha : P.underlying a = some (.int k)) (hb : P.underlying b = some .string) : evConvert P a b (.int k' n) h = .val (.str (Utf8.encode n).data.toList) h := by
  simp only [evConvert, ha, hb]
end AEv

namespace AEv
open Go

section
variable {P : Program} {intr : Nat → List AV → AHeap → Option (AV × AHeap)}
def panOf : AEx → Option AV
  | .pan v => some v
  | _ => none
theorem fn_dfr {f g n : Nat} {fn gn : Func} {args gargs : List AV} {h h1 h2 : AHeap} (hf : P.funcs[f]? = some fn) (hb : fn.body.isSome = true) (hi : intr f args h = none) (hle : Nat.ble args.length fn.ntmps = true)
    {e : AEx} {Γ : Env} {q : Rc} (hrun : RunF P fn none (callN P intr n) [] ⟨argsG 0 args, [], .none, h⟩ e ⟨Γ, [.call g gargs], q, h1⟩) (he : e = .ret ∨ e = .nrm ∨ ∃ v, e = .pan v)
    (hg : P.funcs[g]? = some gn) (hgb : gn.body.isSome = true) (hgle : Nat.ble gargs.length gn.ntmps = true)
    {e2 : AEx} {Γ2 : Env} {q2 : Rc} (hrun2 : RunF P gn none (callN P intr n) [] ⟨argsG 0 gargs, [], rcOf (panOf e), h1⟩ e2 ⟨Γ2, [], q2, h2⟩) (he2 : e2 = .ret ∨ e2 = .nrm) {w : AV} (hres2 : resS P (needFn gn) gn Γ2 h2 = some w)
    (hq : settleA q2 (panOf e) = none) {v : AV} (hres : resS P (needFn fn) fn Γ h2 = some v) :
    callN P intr (n + 1) (.fn f) args h = .ret v h2 := by
  obtain ⟨c, hc⟩ := Option.isSome_iff_exists.1 hb
  obtain ⟨c2, hc2⟩ := Option.isSome_iff_exists.1 hgb
  have hbo : bodyOf fn = c := by simp [bodyOf, hc]
  have hbo2 : bodyOf gn = c2 := by simp [bodyOf, hc2]
  unfold RunF at hrun hrun2
  rw [hbo] at hrun
  rw [hbo2] at hrun2
  simp only [sub] at hrun hrun2
  obtain ⟨r1, k1, m1⟩ := hrun _ (args_mod args)
  obtain ⟨r2, k2, m2⟩ := hrun2 _ (args_mod gargs)
  have hr := resS_ok m1 hres
  have hr2 := resS_ok m2 hres2
  have hd : didDefer P gn (panOf e) (evBody P (callN P intr n) gn gargs (rcOf (panOf e)) h1) = some (none, h2) := by
    have hbd : evBody P (callN P intr n) gn gargs (rcOf (panOf e)) h1 = .ok e2 r2 [] q2 h2 := by
      simp only [evBody, hc2, hgle]; exact k2
    rw [hbd]
    rcases he2 with rfl | rfl <;> simp only [didDefer, hr2, hq]
  simp only [callN, hi, evFn, hf, hc, evBody, hle, k1]
  rcases he with rfl | rfl | ⟨v', rfl⟩ <;> (simp only [panOf] at hd; simp only [leaveA, evDefers, hg, hd, hr])
end
end AEv
