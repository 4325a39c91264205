/- What inverted bits do to a packet's checksum: plain mathematics over lists of numbers. -/
import Derived.Test.YtfhnakebfiaccaaPureD
namespace Go.Proofs.Ytfhnakebfiaccaa.P
open Go.RowKit Go.Proofs.Ytfhnakebfiaccaa.M Go.Proofs.YtfhnakebfiaccaaW.PrintWords Go.Proofs.YtfhnakebfiaccaaW.PrintLast

/-- A packet's field as a number. -/
def fieldX (b : List Nat) : Nat := b[8]?.getD 0 ^^^ 256 * (b[9]?.getD 0 ^^^ 256 * (b[10]?.getD 0 ^^^ 256 * b[11]?.getD 0))
/-- What the field and the checksum differ by. -/
def synd (b : List Nat) : Nat := fieldX b ^^^ crcF (blankField b)
/-- An inverted bit. -/
def flipN (b : List Nat) (m : Nat) : List Nat := b.set (m / 8) (b[m / 8]?.getD 0 ^^^ 2 ^ (m % 8))

theorem mix_mod {a y : Nat} (ha : a < 256) : (a ^^^ 256 * y) % 256 = a := by
  have h := Nat.xor_mod_two_pow (a := a) (b := 256 * y) (n := 8)
  simp only [Nat.reducePow] at h
  rw [h, Nat.mul_mod_right, Nat.xor_zero, Nat.mod_eq_of_lt ha]
theorem mix_div {a y : Nat} (ha : a < 256) : (a ^^^ 256 * y) / 256 = y := by
  have h := Nat.xor_div_two_pow (a := a) (b := 256 * y) (n := 8)
  simp only [Nat.reducePow] at h
  rw [h, Nat.div_eq_of_lt ha, Nat.zero_xor, Nat.mul_div_cancel_left _ (by decide)]
theorem fieldX_bytes {b : List Nat} (hb : ByteN b) : fieldX b % 256 = b[8]?.getD 0 ∧ fieldX b / 256 % 256 = b[9]?.getD 0 ∧ fieldX b / 65536 % 256 = b[10]?.getD 0 ∧ fieldX b / 16777216 = b[11]?.getD 0 := by
  have h8 := byteN_get hb 8
  have h9 := byteN_get hb 9
  have h10 := byteN_get hb 10
  have h11 := byteN_get hb 11
  refine ⟨mix_mod h8, ?_, ?_, ?_⟩
  · rw [fieldX, mix_div h8, mix_mod h9]
  · rw [show (65536 : Nat) = 256 * 256 from rfl, ← Nat.div_div_eq_div_mul, fieldX, mix_div h8, mix_div h9, mix_mod h10]
  · rw [show (16777216 : Nat) = 256 * 256 * 256 from rfl, ← Nat.div_div_eq_div_mul, ← Nat.div_div_eq_div_mul, fieldX, mix_div h8, mix_div h9, mix_div h10]
theorem sealed_iff {b : List Nat} (hb : ByteN b) (h12 : 12 ≤ b.length) : sealedN b = decide (synd b = 0) := by
  have e : sealedN b = decide (sealN b = b) := by simp [sealedN, h12]
  rw [e]
  refine decide_eq_decide.mpr ?_
  rw [sealN_eq h12]
  obtain ⟨f8, f9, f10, f11⟩ := fieldX_bytes hb
  have h11 := byteN_get hb 11
  have hx := crcF_lt (blankField b)
  have g : ∀ i, (sealN b)[i]? = if i = 8 then some (crcF (blankField b) % 256) else if i = 9 then some (crcF (blankField b) / 256 % 256) else if i = 10 then some (crcF (blankField b) / 65536 % 256) else if i = 11 then some (crcF (blankField b) / 16777216 % 256) else b[i]? := fun i => lay4_get b _ i h12
  have g8 : (sealN b)[8]?.getD 0 = crcF (blankField b) % 256 := by rw [g]; rfl
  have g9 : (sealN b)[9]?.getD 0 = crcF (blankField b) / 256 % 256 := by rw [g]; rfl
  have g10 : (sealN b)[10]?.getD 0 = crcF (blankField b) / 65536 % 256 := by rw [g]; rfl
  have g11 : (sealN b)[11]?.getD 0 = crcF (blankField b) / 16777216 % 256 := by rw [g]; rfl
  rw [g8, g9, g10, g11, ← f8, ← f9, ← f10, ← f11]
  have hz : synd b = 0 ↔ fieldX b = crcF (blankField b) := by
    unfold synd
    constructor
    · intro h
      have : fieldX b ^^^ crcF (blankField b) ^^^ crcF (blankField b) = 0 ^^^ crcF (blankField b) := by rw [h]
      rwa [Nat.xor_assoc, Nat.xor_self, Nat.xor_zero, Nat.zero_xor] at this
    · intro h
      rw [h, Nat.xor_self]
  rw [hz]
  constructor
  · rintro ⟨e1, e2, e3, e4⟩
    omega
  · intro h
    rw [h] at f11 ⊢
    refine ⟨rfl, rfl, rfl, ?_⟩
    omega
theorem synd_sealN {b : List Nat} (hb : ByteN b) (h12 : 12 ≤ b.length) : synd (sealN b) = 0 := by
  have h := sealed_iff (byteN_sealN hb) (by rw [sealN_length]; exact h12)
  rw [sealed_sealN h12] at h
  exact of_decide_eq_true h.symm
/-! ### one bit -/
theorem flipN_length (b : List Nat) (m : Nat) : (flipN b m).length = b.length := by simp [flipN]
theorem flipN_get (b : List Nat) (m i : Nat) (h : m < 8 * b.length) : (flipN b m)[i]? = if i = m / 8 then some (b[m / 8]?.getD 0 ^^^ 2 ^ (m % 8)) else b[i]? := by
  unfold flipN
  rw [List.getElem?_set]
  by_cases e : m / 8 = i
  · rw [if_pos e, if_pos e.symm, if_pos (by omega)]
  · rw [if_neg e, if_neg (by omega)]
theorem flipN_bytes {b : List Nat} (hb : ByteN b) (m : Nat) : ByteN (flipN b m) := by
  refine byteN_set hb _ _ ?_
  refine Nat.xor_lt_two_pow (n := 8) (by simpa using byteN_get hb _) ?_
  exact Nat.pow_lt_pow_right (by decide) (by omega)
theorem ticks_bit {k j : Nat} (h : j ≤ k) : ticks k (2 ^ j) = ticks (k - j) 1 := by
  have e : k = (k - j) + j := by omega
  conv => lhs; rw [e]
  rw [ticks_add]
  have := ticks_pow j 1
  rw [Nat.mul_one] at this
  rw [this]
theorem crcN_flip {x : List Nat} (hx : ByteN x) (r m : Nat) (h : m < 8 * x.length) : crcN r (flipN x m) = crcN r x ^^^ ticks (8 * x.length - m) 1 := by
  have hq : m / 8 < x.length := by omega
  have e1 : x = x.take (m / 8) ++ x[m / 8] :: x.drop (m / 8 + 1) := by
    conv => lhs; rw [← List.take_append_drop (m / 8) x, List.drop_eq_getElem_cons hq]
  have eg : x[m / 8]?.getD 0 = x[m / 8] := by rw [List.getElem?_eq_getElem hq]; rfl
  have e2 : flipN x m = x.take (m / 8) ++ (x[m / 8] ^^^ 2 ^ (m % 8)) :: x.drop (m / 8 + 1) := by
    unfold flipN
    rw [eg, List.set_eq_take_append_cons_drop, if_pos hq]
  have hc : x[m / 8] < 256 := hx _ (List.getElem_mem hq)
  have hc2 : x[m / 8] ^^^ 2 ^ (m % 8) < 256 := Nat.xor_lt_two_pow (n := 8) (by simpa using hc) (Nat.pow_lt_pow_right (by decide) (by omega))
  have hl : (x.drop (m / 8 + 1)).length = x.length - (m / 8 + 1) := List.length_drop
  have ex : crcN r x = crcN (byteStep (crcN r (x.take (m / 8))) x[m / 8]) (x.drop (m / 8 + 1)) := by
    conv => lhs; rw [e1]
    rw [crcN_append, crcN_cons]
  rw [e2, ex, crcN_append, crcN_cons, byteStep_ticks hc2, byteStep_ticks hc, ← Nat.xor_assoc, ticks_xor, Nat.xor_comm (ticks 8 _) (ticks 8 (2 ^ _)), crcN_xor, ticks_bit (by omega), ← ticks_add, hl, Nat.xor_comm]
  congr 2
  omega
/-- What an inverted bit changes. -/
def errE (n m : Nat) : Nat := if 64 ≤ m ∧ m < 96 then 2 ^ (m - 64) else ticks (8 * n - m) 1
theorem xor_mul (k x y : Nat) : 2 ^ k * (x ^^^ y) = 2 ^ k * x ^^^ 2 ^ k * y := by
  apply Nat.eq_of_testBit_eq
  intro j
  rw [Nat.testBit_xor, Nat.testBit_two_pow_mul, Nat.testBit_two_pow_mul, Nat.testBit_two_pow_mul, Nat.testBit_xor]
  by_cases h : k ≤ j <;> simp [h]
theorem synd_flip {b : List Nat} (hb : ByteN b) (h12 : 12 ≤ b.length) (m : Nat) (hm : m < 8 * b.length) : synd (flipN b m) = synd b ^^^ errE b.length m := by
  have hg := fun i => flipN_get b m i hm
  by_cases hf : 64 ≤ m ∧ m < 96
  · have eb : blankField (flipN b m) = blankField b := by
      apply List.ext_getElem?
      intro i
      rw [blankField_get (by rw [flipN_length]; exact h12), blankField_get h12, hg]
      by_cases h1 : 8 ≤ i ∧ i < 12
      · rw [if_pos h1, if_pos h1]
      · rw [if_neg h1, if_neg h1, if_neg (by omega)]
    have ef : fieldX (flipN b m) = fieldX b ^^^ 2 ^ (m - 64) := by
      have x256 : ∀ p q : Nat, 256 * (p ^^^ q) = 256 * p ^^^ 256 * q := fun p q => xor_mul 8 p q
      unfold fieldX
      rw [hg, hg, hg, hg]
      rcases (show m / 8 = 8 ∨ m / 8 = 9 ∨ m / 8 = 10 ∨ m / 8 = 11 by omega) with e | e | e | e
      · rw [e, if_pos rfl, if_neg (by decide), if_neg (by decide), if_neg (by decide), Option.getD_some, show m - 64 = m % 8 by omega, Nat.xor_assoc, Nat.xor_comm (2 ^ _), Nat.xor_assoc]
      · have ep : 2 ^ (m - 64) = 256 * 2 ^ (m % 8) := by rw [show m - 64 = 8 + m % 8 by omega, Nat.pow_add]
        rw [e, if_neg (by decide), if_pos rfl, if_neg (by decide), if_neg (by decide), Option.getD_some, ep, Nat.xor_assoc, Nat.xor_comm (2 ^ _), ← Nat.xor_assoc, x256, Nat.xor_assoc]
      · have ep : 2 ^ (m - 64) = 256 * (256 * 2 ^ (m % 8)) := by rw [show m - 64 = 8 + (8 + m % 8) by omega, Nat.pow_add, Nat.pow_add]
        rw [e, if_neg (by decide), if_neg (by decide), if_pos rfl, if_neg (by decide), Option.getD_some, ep, Nat.xor_assoc (b[10]?.getD 0), Nat.xor_comm (2 ^ _), ← Nat.xor_assoc (b[10]?.getD 0), x256 _ (2 ^ _), ← Nat.xor_assoc (b[9]?.getD 0), x256 _ (256 * 2 ^ _), Nat.xor_assoc (b[8]?.getD 0)]
      · have ep : 2 ^ (m - 64) = 256 * (256 * (256 * 2 ^ (m % 8))) := by rw [show m - 64 = 8 + (8 + (8 + m % 8)) by omega, Nat.pow_add, Nat.pow_add, Nat.pow_add]
        rw [e, if_neg (by decide), if_neg (by decide), if_neg (by decide), if_pos rfl, Option.getD_some, ep, x256 _ (2 ^ _), ← Nat.xor_assoc (b[10]?.getD 0), x256 _ (256 * 2 ^ _), ← Nat.xor_assoc (b[9]?.getD 0), x256 _ (256 * (256 * 2 ^ _)), Nat.xor_assoc (b[8]?.getD 0)]
    unfold synd errE
    rw [eb, ef, if_pos hf, Nat.xor_assoc, Nat.xor_comm (2 ^ _), Nat.xor_assoc]
  · have eb : blankField (flipN b m) = flipN (blankField b) m := by
      apply List.ext_getElem?
      intro i
      rw [blankField_get (by rw [flipN_length]; exact h12), hg, flipN_get _ _ _ (by rw [blankField_length h12]; exact hm), blankField_get h12, blankField_get h12]
      by_cases h1 : 8 ≤ i ∧ i < 12
      · rw [if_pos h1, if_neg (by omega), if_pos h1]
      · rw [if_neg h1, if_neg h1, if_neg (show ¬ (8 ≤ m / 8 ∧ m / 8 < 12) by omega)]
    have ef : fieldX (flipN b m) = fieldX b := by
      unfold fieldX
      rw [hg, hg, hg, hg, if_neg (by omega), if_neg (by omega), if_neg (by omega), if_neg (by omega)]
    have hbl := byteN_blank hb
    have hlen := blankField_length h12
    have h1 := crcN_flip hbl 4294967295 m (by rw [hlen]; exact hm)
    have k1 : crcF (flipN (blankField b) m) = crcF (blankField b) ^^^ ticks (8 * b.length - m) 1 := by
      unfold crcF
      rw [← not_xor (crcN_lt _ (by decide)), ← not_xor (crcN_lt _ (by decide)), h1, hlen, ← Nat.xor_assoc]
    unfold synd errE
    rw [eb, ef, if_neg hf, k1, ← Nat.xor_assoc]
end Go.Proofs.Ytfhnakebfiaccaa.P
