/- One, two or three inverted bits never cancel out: plain mathematics over numbers. -/
import Derived.Test.YtfhnakebfiaccaaFlip
namespace Go.Proofs.Ytfhnakebfiaccaa.P
open Go.RowKit Go.Proofs.Ytfhnakebfiaccaa.M Go.Proofs.YtfhnakebfiaccaaW.PrintWords Go.Proofs.YtfhnakebfiaccaaW.PrintLast

/-! ### the parity of 32 bits -/
def par : Nat → Nat → Nat
  | 0, _ => 0
  | k + 1, x => x % 2 ^^^ par k (x / 2)
theorem mod2_xor (x y : Nat) : (x ^^^ y) % 2 = x % 2 ^^^ y % 2 := Nat.xor_mod_two_pow (n := 1) (a := x) (b := y)
theorem par_xor : ∀ k x y, par k (x ^^^ y) = par k x ^^^ par k y
  | 0, _, _ => by simp [par]
  | k + 1, x, y => by
    simp only [par]
    rw [mod2_xor, xor_div_two, par_xor k]
    ac_rfl
theorem par_zero (k : Nat) : par k 0 = 0 := by
  have := par_xor k 0 0
  rw [Nat.xor_self] at this
  rw [this, Nat.xor_self]
theorem par_top : ∀ k x, x < 2 ^ k → par (k + 1) x = par k x
  | 0, x, h => by
    have : x = 0 := by simpa using h
    rw [this]; rfl
  | k + 1, x, h => by
    have := par_top k (x / 2) (by rw [Nat.pow_succ] at h; omega)
    show x % 2 ^^^ par (k + 1) (x / 2) = x % 2 ^^^ par k (x / 2)
    rw [this]
theorem par_tick {r : Nat} (h : r < 4294967296) : par 32 (tick r) = par 32 r := by
  have e1 : par 32 r = r % 2 ^^^ par 32 (r / 2) := by
    rw [← par_top 32 r h]
    rfl
  have e2 : par 32 2197175160 = 1 := by decide +kernel
  unfold tick
  split
  · rename_i ho
    rw [par_xor, e1, e2, ho, Nat.xor_comm]
  · rename_i ho
    rw [e1, show r % 2 = 0 by omega, Nat.zero_xor]
theorem par_ticks {r : Nat} (h : r < 4294967296) : ∀ k, par 32 (ticks k r) = par 32 r
  | 0 => rfl
  | k + 1 => by
    show par 32 (tick (ticks k r)) = par 32 r
    rw [par_tick (ticks_lt h k), par_ticks h k]
/-! ### how soon the register comes back -/
def hop (r : Nat) : Nat := if tick r = 2147483648 then 0 else tick r
def hops : Nat → Nat → Nat
  | 0, r => hop r
  | k + 1, r => match hops k r with
    | 0 => 0
    | s + 1 => hops k (s + 1)
theorem hops_15 : hops 15 2147483648 ≠ 0 := by decide +kernel
theorem hop_zero : hop 0 = 0 := rfl
theorem hops_zero : ∀ k, hops k 0 = 0
  | 0 => rfl
  | k + 1 => by simp only [hops, hops_zero k]
theorem hops_ticks : ∀ k r, hops k r ≠ 0 → hops k r = ticks (2 ^ k) r ∧ ∀ d, 1 ≤ d → d ≤ 2 ^ k → ticks d r ≠ 2147483648
  | 0, r, h => by
    simp only [hops, hop] at h ⊢
    by_cases e : tick r = 2147483648
    · rw [if_pos e] at h
      exact absurd rfl h
    · rw [if_neg e]
      refine ⟨rfl, fun d h1 h2 => ?_⟩
      obtain rfl : d = 1 := by
        rw [Nat.pow_zero] at h2
        omega
      exact e
  | k + 1, r, h => by
    have hs : ∀ x, hops k r = x → x ≠ 0 → hops (k + 1) r = hops k x := by
      intro x hx hx0
      simp only [hops]
      rw [hx]
      cases x with
      | zero => exact absurd rfl hx0
      | succ s => rfl
    by_cases h0 : hops k r = 0
    · refine absurd ?_ h
      simp only [hops]
      rw [h0]
    · have e := hs _ rfl h0
      rw [e] at h ⊢
      obtain ⟨e1, d1⟩ := hops_ticks k r h0
      obtain ⟨e2, d2⟩ := hops_ticks k (hops k r) h
      refine ⟨?_, fun d h1 h2 => ?_⟩
      · rw [e2, e1, ← ticks_add, Nat.pow_succ, Nat.mul_two]
      · by_cases hd : d ≤ 2 ^ k
        · exact d1 d h1 hd
        · have := d2 (d - 2 ^ k) (by omega) (by rw [Nat.pow_succ] at h2; omega)
          rw [e1, ← ticks_add, show d - 2 ^ k + 2 ^ k = d by omega] at this
          exact this
theorem no_return (d : Nat) (h1 : 1 ≤ d) (h2 : d ≤ 32768) : ticks d 2147483648 ≠ 2147483648 := (hops_ticks 15 2147483648 hops_15).2 d h1 h2
theorem ticks_inj {x y : Nat} (hx : x < 4294967296) (hy : y < 4294967296) {k : Nat} (h : ticks k x = ticks k y) : x = y := by
  have h2 : ticks k (x ^^^ y) = 0 := by rw [ticks_xor, h, Nat.xor_self]
  have h3 : x ^^^ y = 0 := (ticks_eq_zero (Nat.xor_lt_two_pow (n := 32) hx hy)).1 h2
  have : x ^^^ y ^^^ y = 0 ^^^ y := by rw [h3]
  rwa [Nat.xor_assoc, Nat.xor_self, Nat.xor_zero, Nat.zero_xor] at this
/-! ### an inverted bit, as a number of divisions -/
def age (n p : Nat) : Nat := if 64 ≤ p ∧ p < 96 then 95 - p else 8 * n - p + 31
theorem errE_age (n p : Nat) : errE n p = ticks (age n p) 2147483648 := by
  unfold errE age
  split
  · rename_i h
    have e : 2147483648 = 2 ^ (95 - p) * 2 ^ (p - 64) := by
      rw [← Nat.pow_add, show 95 - p + (p - 64) = 31 by omega]
    rw [e, ticks_pow]
  · rw [ticks_add]
    have : ticks 31 2147483648 = 1 := ticks_pow 31 1
    rw [this]
theorem age_inj {n p r : Nat} (hp : p < 8 * n) (hr : r < 8 * n) (h : age n p = age n r) : p = r := by
  unfold age at h
  split at h <;> split at h <;> omega
theorem age_le {n p : Nat} (hn : n ≤ 3011) : age n p ≤ 32768 := by
  unfold age
  split <;> omega
theorem par_errE (n p : Nat) : par 32 (errE n p) = 1 := by
  rw [errE_age, par_ticks (by decide)]
  decide +kernel
theorem errE_ne {n p r : Nat} (hn : n ≤ 3011) (hp : p < 8 * n) (hr : r < 8 * n) (h : p ≠ r) : errE n p ≠ errE n r := by
  have key : ∀ a c, a < c → c ≤ 32768 → ticks a 2147483648 ≠ ticks c 2147483648 := by
    intro a c hac hc he
    rw [show c = a + (c - a) by omega, ticks_add] at he
    exact no_return (c - a) (by omega) (by omega) (ticks_inj (by decide) (ticks_lt (by decide) _) he).symm
  rw [errE_age, errE_age]
  have ha : age n p ≠ age n r := fun e => h (age_inj hp hr e)
  have h1 := age_le (p := p) hn
  have h2 := age_le (p := r) hn
  rcases Nat.lt_or_gt_of_ne ha with hl | hl
  · exact key _ _ hl h2
  · exact fun e => key _ _ hl h1 e.symm
theorem ne_of_par {x : Nat} (h : par 32 x = 1) : x ≠ 0 := by
  rintro rfl
  rw [par_zero] at h
  cases h
theorem one_flip (n p : Nat) : errE n p ≠ 0 := ne_of_par (par_errE n p)
theorem two_flips {n p r : Nat} (hn : n ≤ 3011) (hp : p < 8 * n) (hr : r < 8 * n) (h : p ≠ r) : errE n p ^^^ errE n r ≠ 0 := by
  intro h0
  have : errE n p ^^^ errE n r ^^^ errE n r = 0 ^^^ errE n r := by rw [h0]
  rw [Nat.xor_assoc, Nat.xor_self, Nat.xor_zero, Nat.zero_xor] at this
  exact errE_ne hn hp hr h this
theorem three_flips (n p r s : Nat) : errE n p ^^^ errE n r ^^^ errE n s ≠ 0 := ne_of_par (by rw [par_xor, par_xor, par_errE, par_errE, par_errE]; rfl)
end Go.Proofs.Ytfhnakebfiaccaa.P
