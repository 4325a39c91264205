/- The bytes that a seed spreads, the inverting of a bit, and the kernel of the division: plain mathematics over lists of numbers. -/
import Derived.Test.YtfhnakebfiaccaaP14
import Derived.Test.YtfhnakebfiaccaaErr
namespace Go.Proofs.Ytfhnakebfiaccaa.P
open Go.RowKit Go.Proofs.Ytfhnakebfiaccaa.M Go.Proofs.YtfhnakebfiaccaaW.PrintWords Go.Proofs.YtfhnakebfiaccaaW.PrintLast

/-! ### nothing but zero is divided away -/
theorem tick_ne {r : Nat} (h0 : r ≠ 0) (h : r < 4294967296) : tick r ≠ 0 := by
  unfold tick
  split
  · rename_i ho
    intro hz
    have e : r / 2 = 2197175160 := by
      have : r / 2 ^^^ 2197175160 ^^^ 2197175160 = 0 ^^^ 2197175160 := by rw [hz]
      rwa [Nat.xor_assoc, Nat.xor_self, Nat.xor_zero, Nat.zero_xor] at this
    omega
  · omega
theorem ticks_ne {r : Nat} (h0 : r ≠ 0) (h : r < 4294967296) : ∀ k, ticks k r ≠ 0
  | 0 => h0
  | k + 1 => tick_ne (ticks_ne h0 h k) (ticks_lt h k)
theorem ticks_eq_zero {r : Nat} (h : r < 4294967296) {k : Nat} : ticks k r = 0 ↔ r = 0 := by
  constructor
  · intro h0
    exact Classical.byContradiction fun hn => ticks_ne hn h k h0
  · rintro rfl
    exact ticks_zero k
/-! ### Spread -/
theorem byteN_append {a b : List Nat} (ha : ByteN a) (hb : ByteN b) : ByteN (a ++ b) := by
  intro x hx
  rcases List.mem_append.1 hx with h | h
  · exact ha x h
  · exact hb x h
theorem spread_loop (n : Nat) (hn : n ≤ 1099511627776) (d : Nat) : ∀ (i : Nat) (s : Int) (l : List Nat), ByteN l → l.length = i → i ≤ n → n - i = d →
    ∃ b, ByteN b ∧ b.length = n ∧ Ev (fun k => wharfref05_Spread.l0 k (n : Int) (iN l) s (i : Int)) (iN b) := by
  induction d with
  | zero =>
    intro i s l hl hi hin hd
    refine ⟨l, hl, by omega, Ev.step (f := fun _ => some (iN l)) (fun k => ?_) (Ev.now _)⟩
    simp only [wharfref05_Spread.l0]
    rw [if_neg (by omega)]
  | succ d ih =>
    intro i s l hl hi hin hd
    have hv : ∃ v : Nat, (IntKind.u64.wrap (IntKind.u64.wrap (s * 6364136223846793005) + 1442695040888963407)) / 8589934592 % 256 = (v : Int) ∧ v < 256 := by
      generalize (IntKind.u64.wrap (IntKind.u64.wrap (s * 6364136223846793005) + 1442695040888963407)) / 8589934592 = z
      exact ⟨(z % 256).toNat, by omega, by omega⟩
    obtain ⟨v, ev, hv⟩ := hv
    obtain ⟨b, hb, hbl, he⟩ := ih (i + 1) (IntKind.u64.wrap (IntKind.u64.wrap (s * 6364136223846793005) + 1442695040888963407)) (l ++ [v]) (byteN_append hl (by intro x hx; rw [List.mem_singleton.1 hx]; exact hv)) (by rw [List.length_append, hi]; rfl) (by omega) (by omega)
    refine ⟨b, hb, hbl, Ev.step (fun k => ?_) he⟩
    simp only [wharfref05_Spread.l0]
    rw [if_pos (by omega), if_pos (by rw [iN_length]; omega), wrap_id (by omega), iN_append, ev]
    rfl
theorem spread_pure (n : Nat) (hn : n ≤ 1099511627776) (s : Int) : ∃ b, ByteN b ∧ b.length = n ∧ Ev (fun k => wharfref05_Spread.f k s (n : Int)) (iN b) :=
  spread_loop n hn n 0 s [] (by intro x hx; cases hx) rfl (Nat.zero_le _) rfl
/-! ### flip -/
theorem shl8 {j : Nat} (h : j < 8) : shl .u8 1 (j : Int) = ((2 ^ j : Nat) : Int) := by
  rcases (show j = 0 ∨ j = 1 ∨ j = 2 ∨ j = 3 ∨ j = 4 ∨ j = 5 ∨ j = 6 ∨ j = 7 by omega) with rfl | rfl | rfl | rfl | rfl | rfl | rfl | rfl <;> decide
theorem bit8 {j : Nat} (h : j < 8) : 2 ^ j < 256 := by
  have := Nat.pow_lt_pow_right (a := 2) (by decide) h
  exact this
theorem flip_pure {c : List Nat} (hc : ByteN c) (h0 : 0 < c.length) (hs : c.length ≤ 1099511627776) (m : Nat) : wharflaw05_flip.f (iN c) (m : Int) = some (iN (flipN c (m % (8 * c.length)))) := by
  have e1 : wrap64 (8 * ((iN c).length : Int)) = ((8 * c.length : Nat) : Int) := by rw [iN_length, wrap_id (by omega)]; omega
  have e2 : Int.tmod (m : Int) ((8 * c.length : Nat) : Int) = ((m % (8 * c.length) : Nat) : Int) := by rw [Int.tmod_eq_emod_of_nonneg (by omega)]; rfl
  have hm : m % (8 * c.length) < 8 * c.length := Nat.mod_lt _ (by omega)
  unfold wharflaw05_flip.f
  rw [e1, e2]
  generalize m % (8 * c.length) = q at hm
  have e3 : wrap64 (Int.tdiv (q : Int) 8) = ((q / 8 : Nat) : Int) := by rw [Int.tdiv_eq_ediv_of_nonneg (by omega), wrap_id (by omega)]; rfl
  have e4 : IntKind.u64.wrap (Int.tmod (q : Int) 8) = ((q % 8 : Nat) : Int) := by
    rw [Int.tmod_eq_emod_of_nonneg (by omega)]
    simp only [IntKind.wrap]
    simp [IntKind.bits, IntKind.signed]
    omega
  rw [e3, e4, if_neg (by omega), if_pos (by omega), if_pos (by rw [iN_length]; omega), if_pos (by omega), rd_iN, shl8 (by omega), xor8 (byteN_get hc _) (bit8 (by omega)), Int.toNat_natCast, iN_set]
  rfl
end Go.Proofs.Ytfhnakebfiaccaa.P
