/- The checksum as plain numbers: one step of the register, a byte, a list of bytes; nothing of the program stands here. -/
namespace Go.Proofs.Ytfhnakebfiaccaa.M

/-- One step of the register. -/
def tick (r : Nat) : Nat := if r % 2 = 1 then (r / 2) ^^^ 2197175160 else r / 2
def ticks : Nat → Nat → Nat
  | 0, r => r
  | k + 1, r => tick (ticks k r)
/-- One step with a bit of the message. -/
def fbit (r x : Nat) : Nat := if (r % 2) ^^^ x = 1 then (r / 2) ^^^ 2197175160 else r / 2
/-- k steps with the bits of a byte, the lowest first. -/
def fbits (r c : Nat) : Nat → Nat
  | 0 => r
  | k + 1 => fbit (fbits r c k) (c / 2 ^ k % 2)
def byteStep (r c : Nat) : Nat := fbits r c 8
/-- The register behind bytes. -/
def crcN (r : Nat) (l : List Nat) : Nat := l.foldl byteStep r
/-- Bytes. -/
def Bytes (l : List Int) : Prop := ∀ x ∈ l, 0 ≤ x ∧ x < 256
instance (l : List Int) : Decidable (Bytes l) := List.decidableBAll (fun x => 0 ≤ x ∧ x < 256) l
def toN (l : List Int) : List Nat := l.map Int.toNat

theorem tick_lt {r : Nat} (h : r < 4294967296) : tick r < 4294967296 := by
  unfold tick
  split
  · exact Nat.xor_lt_two_pow (n := 32) (by omega) (by omega)
  · omega
theorem ticks_lt {r : Nat} (h : r < 4294967296) : ∀ k, ticks k r < 4294967296
  | 0 => h
  | k + 1 => tick_lt (ticks_lt h k)
theorem fbit_lt {r x : Nat} (h : r < 4294967296) : fbit r x < 4294967296 := by
  unfold fbit
  split
  · exact Nat.xor_lt_two_pow (n := 32) (by omega) (by omega)
  · omega
theorem fbits_lt {r c : Nat} (h : r < 4294967296) : ∀ k, fbits r c k < 4294967296
  | 0 => h
  | k + 1 => fbit_lt (fbits_lt h k)
theorem byteStep_lt {r c : Nat} (h : r < 4294967296) : byteStep r c < 4294967296 := fbits_lt h 8
theorem crcN_lt {r : Nat} (l : List Nat) (h : r < 4294967296) : crcN r l < 4294967296 := by
  induction l generalizing r with
  | nil => exact h
  | cons x l ih => exact ih (byteStep_lt h)
theorem crcN_append (r : Nat) (l m : List Nat) : crcN r (l ++ m) = crcN (crcN r l) m := by simp [crcN, List.foldl_append]
theorem toN_length (l : List Int) : (toN l).length = l.length := by simp [toN]
theorem toN_append (l m : List Int) : toN (l ++ m) = toN l ++ toN m := by simp [toN]
theorem toN_take (l : List Int) (k : Nat) : toN (l.take k) = (toN l).take k := by simp [toN, List.map_take]
theorem take_snoc {α : Type} (l : List α) (k : Nat) (h : k < l.length) : l.take (k + 1) = l.take k ++ [l[k]] := by
  rw [List.take_succ_eq_append_getElem h]
theorem crcN_snoc (r : Nat) (l : List Int) (k : Nat) (h : k < l.length) : crcN r (toN (l.take (k + 1))) = byteStep (crcN r (toN (l.take k))) (l[k]).toNat := by
  rw [take_snoc l k h, toN_append, crcN_append]
  rfl
theorem xor_mod_two (a b : Nat) : (a ^^^ b) % 2 = (a % 2 + b % 2) % 2 := by
  have h := Nat.xor_mod_two_pow (a := a) (b := b) (n := 1)
  simp only [Nat.pow_one] at h
  rw [h]
  rcases Nat.mod_two_eq_zero_or_one a with ha | ha <;> rcases Nat.mod_two_eq_zero_or_one b with hb | hb <;> rw [ha, hb] <;> rfl
theorem xor_div_two (a b : Nat) : (a ^^^ b) / 2 = a / 2 ^^^ b / 2 := by
  have h := Nat.xor_div_two_pow (a := a) (b := b) (n := 1)
  simpa using h
theorem tick_xor (a b : Nat) : tick (a ^^^ b) = tick a ^^^ tick b := by
  unfold tick
  rw [xor_mod_two, xor_div_two]
  rcases Nat.mod_two_eq_zero_or_one a with ha | ha <;> rcases Nat.mod_two_eq_zero_or_one b with hb | hb <;> rw [ha, hb]
  · rfl
  · simp [Nat.xor_assoc]
  · simp only [Nat.zero_ne_one, Nat.reduceAdd, Nat.reduceMod, if_true, if_false]
    rw [Nat.xor_assoc, Nat.xor_assoc, Nat.xor_comm (b / 2)]
  · simp only [Nat.reduceAdd, Nat.reduceMod, if_true, Nat.zero_ne_one, if_false]
    rw [Nat.xor_assoc, Nat.xor_comm (b / 2), ← Nat.xor_assoc 2197175160, Nat.xor_self, Nat.zero_xor]
theorem ticks_xor (k a b : Nat) : ticks k (a ^^^ b) = ticks k a ^^^ ticks k b := by
  induction k with
  | zero => rfl
  | succ k ih => simp only [ticks]; rw [ih, tick_xor]
theorem tick_double (y : Nat) : tick (2 * y) = y := by
  unfold tick
  rw [if_neg (by omega)]
  omega
theorem ticks_tick (k x : Nat) : ticks k (tick x) = tick (ticks k x) := by
  induction k with
  | zero => rfl
  | succ k ih => simp only [ticks]; rw [ih]
theorem ticks_add (j k x : Nat) : ticks (j + k) x = ticks j (ticks k x) := by
  induction j with
  | zero => simp [ticks]
  | succ j ih => rw [Nat.succ_add]; simp only [ticks]; rw [ih]
theorem ticks_pow (k y : Nat) : ticks k (2 ^ k * y) = y := by
  induction k generalizing y with
  | zero => simp [ticks]
  | succ k ih =>
    simp only [ticks]
    rw [show 2 ^ (k + 1) * y = 2 ^ k * (2 * y) by rw [Nat.pow_succ, Nat.mul_assoc], ih, tick_double]
theorem fbit_tick (r x : Nat) (hx : x < 2) : fbit r x = tick (r ^^^ x) := by
  unfold fbit tick
  rw [xor_mod_two, xor_div_two]
  have h0 : x / 2 = 0 := by omega
  rw [h0, Nat.xor_zero]
  rcases Nat.mod_two_eq_zero_or_one r with hr | hr <;> (have hx' : x = 0 ∨ x = 1 := by omega) <;> rcases hx' with rfl | rfl <;> rw [hr] <;> rfl
theorem mod_pow_succ (c k : Nat) : c % 2 ^ (k + 1) = c % 2 ^ k ^^^ 2 ^ k * (c / 2 ^ k % 2) := by
  apply Nat.eq_of_testBit_eq
  intro j
  rw [Nat.testBit_xor, Nat.testBit_mod_two_pow, Nat.testBit_mod_two_pow, Nat.testBit_two_pow_mul]
  have h2 : (c / 2 ^ k % 2).testBit (j - k) = (decide (j - k < 1) && c.testBit (k + (j - k))) := by
    have h := Nat.testBit_mod_two_pow (c / 2 ^ k) 1 (j - k)
    rw [Nat.pow_one] at h
    rw [h, Nat.testBit_div_two_pow, Nat.add_comm]
  rw [h2]
  by_cases hj : j < k
  · have h1 : j < k + 1 := by omega
    have h3 : ¬ k ≤ j := by omega
    simp [hj, h1, h3]
  · by_cases he : j = k
    · subst he
      simp
    · have h1 : ¬ j < k + 1 := by omega
      have h3 : ¬ j - k < 1 := by omega
      simp only [hj, h1, h3, decide_false, Bool.false_and, Bool.and_false, Bool.false_xor]
theorem fbits_ticks (r c : Nat) : ∀ k, fbits r c k = ticks k (r ^^^ c % 2 ^ k)
  | 0 => by simp [fbits, ticks, Nat.mod_one]
  | k + 1 => by
    simp only [fbits]
    rw [fbits_ticks r c k, fbit_tick _ _ (Nat.mod_lt _ (by decide)), mod_pow_succ, ← Nat.xor_assoc, ticks, ticks_xor (b := 2 ^ k * _), ticks_pow]
theorem byteStep_ticks {r c : Nat} (hc : c < 256) : byteStep r c = ticks 8 (r ^^^ c) := by
  unfold byteStep
  rw [fbits_ticks, Nat.mod_eq_of_lt (by simpa using hc)]
theorem split256 (r : Nat) : r = 2 ^ 8 * (r / 256) ^^^ r % 256 := by
  apply Nat.eq_of_testBit_eq
  intro j
  rw [Nat.testBit_xor, Nat.testBit_two_pow_mul]
  have h1 := Nat.testBit_mod_two_pow r 8 j
  have h2 : (r / 2 ^ 8).testBit (j - 8) = r.testBit (j - 8 + 8) := Nat.testBit_div_two_pow r (j - 8)
  simp only [Nat.reducePow] at h1 h2
  rw [h1, h2]
  by_cases hj : j < 8
  · have h3 : ¬ 8 ≤ j := by omega
    simp [hj, h3]
  · have h3 : 8 ≤ j := by omega
    simp [hj, h3]
/-- The step by the table. -/
theorem byteStep_table {r c : Nat} (hc : c < 256) : r / 256 ^^^ ticks 8 (r % 256 ^^^ c) = byteStep r c := by
  rw [byteStep_ticks hc]
  conv => rhs; rw [split256 r]
  rw [Nat.xor_assoc, ticks_xor (a := 2 ^ 8 * (r / 256)), ticks_pow]
/-! ### lists of coefficients -/
/-- A coefficient, modulo 2. -/
def co (l : List Nat) (j : Nat) : Nat := l[j]?.getD 0 % 2
/-- The length without the zeros at the end: the degree and 1. -/
def lead : List Nat → Nat
  | [] => 0
  | x :: l => if lead l = 0 then (if x % 2 = 1 then 1 else 0) else lead l + 1
theorem lead_le : ∀ l, lead l ≤ l.length
  | [] => Nat.le_refl _
  | x :: l => by
    have ih := lead_le l
    simp only [lead, List.length_cons]
    split
    · split <;> omega
    · omega
theorem lead_even : ∀ l j, lead l ≤ j → co l j = 0
  | [], j, _ => by simp [co]
  | x :: l, j, h => by
    simp only [lead] at h
    cases j with
    | zero =>
      split at h
      · split at h
        · omega
        · simp [co]; omega
      · omega
    | succ j =>
      have ih := lead_even l j (by split at h <;> omega)
      simpa [co] using ih
theorem lead_odd : ∀ l, 0 < lead l → co l (lead l - 1) = 1
  | [], h => by simp [lead] at h
  | x :: l, h => by
    simp only [lead] at h ⊢
    by_cases h0 : lead l = 0
    · rw [if_pos h0] at h ⊢
      by_cases hx : x % 2 = 1
      · rw [if_pos hx]; simpa [co] using hx
      · rw [if_neg hx] at h; omega
    · rw [if_neg h0]
      have ih := lead_odd l (by omega)
      rw [show lead l + 1 - 1 = (lead l - 1) + 1 by omega]
      simpa [co] using ih
theorem lead_unique {l : List Nat} {n : Nat} (h1 : 0 < n → co l (n - 1) = 1) (h2 : ∀ j, n ≤ j → co l j = 0) : lead l = n := by
  rcases Nat.lt_trichotomy (lead l) n with h | h | h
  · have := h1 (by omega)
    rw [lead_even l (n - 1) (by omega)] at this
    cases this
  · exact h
  · have := h2 (lead l - 1) (by omega)
    rw [lead_odd l (by omega)] at this
    cases this
/-! ### polynomials as lists of coefficients, that of x^0 first; the remainder as a word -/
/-- The word of the remainder: Horner, the highest coefficient first. -/
def wr : List Nat → Nat
  | [] => 0
  | c :: l => tick (wr l) ^^^ c % 2 * 2147483648
/-- The sum of two lists. -/
def addL : List Nat → List Nat → List Nat
  | [], b => b
  | x :: a, [] => x :: a
  | x :: a, y :: b => (x ^^^ y) :: addL a b
/-- Without zeros at the end, modulo 2. -/
def red (l : List Nat) : List Nat := (l.take (lead l)).map (· % 2)
/-- The generator. -/
def G : List Nat := [1, 0, 0, 0, 0, 0, 1, 0, 1, 1, 1, 1, 0, 1, 1, 0, 0, 0, 1, 1, 1, 0, 1, 1, 0, 1, 1, 1, 1, 0, 0, 0, 1]

theorem tick_zero : tick 0 = 0 := rfl
theorem ticks_zero : ∀ k, ticks k 0 = 0
  | 0 => rfl
  | k + 1 => by simp only [ticks]; rw [ticks_zero k]; rfl
theorem top_lt (c : Nat) : c % 2 * 2147483648 < 4294967296 := by
  have := Nat.mod_lt c (show 0 < 2 by decide)
  omega
theorem wr_lt : ∀ l, wr l < 4294967296
  | [] => by decide
  | c :: l => Nat.xor_lt_two_pow (n := 32) (tick_lt (wr_lt l)) (top_lt c)
theorem xor_top (x y : Nat) : (x ^^^ y) % 2 * 2147483648 = x % 2 * 2147483648 ^^^ y % 2 * 2147483648 := by
  rw [xor_mod_two]
  rcases Nat.mod_two_eq_zero_or_one x with h | h <;> rcases Nat.mod_two_eq_zero_or_one y with h' | h' <;> rw [h, h'] <;> rfl
theorem wr_add : ∀ a b, wr (addL a b) = wr a ^^^ wr b
  | [], b => by simp [addL, wr]
  | x :: a, [] => by simp [addL, wr]
  | x :: a, y :: b => by
    simp only [addL, wr]
    rw [wr_add a b, tick_xor, xor_top, Nat.xor_assoc, Nat.xor_assoc, ← Nat.xor_assoc (tick (wr b)), Nat.xor_comm (tick (wr b)), Nat.xor_assoc]
theorem wr_zeros : ∀ b, (∀ i, co b i = 0) → wr b = 0
  | [], _ => rfl
  | y :: b, h => by
    have h0 : y % 2 = 0 := by simpa [co] using h 0
    have ht : wr b = 0 := wr_zeros b (fun i => by simpa [co] using h (i + 1))
    simp only [wr, ht, h0]
    rfl
theorem wr_congr : ∀ a b, (∀ i, co a i = co b i) → wr a = wr b
  | [], b, h => (wr_zeros b (fun i => by rw [← h i]; simp [co])).symm
  | x :: a, [], h => wr_zeros (x :: a) (fun i => by rw [h i]; simp [co])
  | x :: a, y :: b, h => by
    have h0 : x % 2 = y % 2 := by simpa [co] using h 0
    have ht : wr a = wr b := wr_congr a b (fun i => by simpa [co] using h (i + 1))
    simp only [wr, ht, h0]
theorem wr_shift (n : Nat) (l : List Nat) : wr (List.replicate n 0 ++ l) = ticks n (wr l) := by
  induction n with
  | zero => rfl
  | succ n ih =>
    rw [List.replicate_succ, List.cons_append]
    simp only [wr, ticks]
    rw [ih]
    simp
theorem wr_G : wr G = 0 := by decide +kernel
theorem co_add : ∀ a b i, co (addL a b) i = (co a i + co b i) % 2
  | [], b, i => by simp [addL, co]
  | x :: a, [], i => by simp [addL, co]
  | x :: a, y :: b, 0 => by simp [addL, co, xor_mod_two]
  | x :: a, y :: b, i + 1 => by simpa [addL, co] using co_add a b i
theorem co_lt (l : List Nat) (i : Nat) : co l i < 2 := Nat.mod_lt _ (by decide)
theorem red_length (l : List Nat) : (red l).length = lead l := by
  have := lead_le l
  simp [red]; omega
theorem co_red (l : List Nat) (i : Nat) : co (red l) i = co l i := by
  by_cases h : i < lead l
  · have h2 := lead_le l
    have h3 : i < l.length := by omega
    simp [co, red, h, h3]
  · rw [lead_even l i (by omega)]
    have : (red l)[i]? = none := List.getElem?_eq_none (by rw [red_length]; omega)
    simp [co, this]
theorem wr_red (l : List Nat) : wr (red l) = wr l := wr_congr _ _ (co_red l)
theorem lead_congr {a b : List Nat} (h : ∀ i, co a i = co b i) : lead a = lead b :=
  lead_unique (fun h0 => by rw [h]; exact lead_odd b h0) (fun j hj => by rw [h]; exact lead_even b j hj)
theorem red_get (l : List Nat) (i : Nat) (h : i < lead l) : (red l)[i]? = some (co l i) := by
  have h2 := lead_le l
  have h3 : i < l.length := by omega
  simp [co, red, h, h3]
theorem red_congr {a b : List Nat} (h : ∀ i, co a i = co b i) : red a = red b := by
  apply List.ext_getElem?
  intro i
  by_cases hi : i < lead a
  · rw [red_get a i hi, red_get b i (by rw [← lead_congr h]; exact hi), h]
  · rw [List.getElem?_eq_none (by rw [red_length]; omega), List.getElem?_eq_none (by rw [red_length, ← lead_congr h]; omega)]
theorem lead_red (l : List Nat) : lead (red l) = lead l := lead_congr (co_red l)
theorem red_red (l : List Nat) : red (red l) = red l := red_congr (co_red l)
theorem red_bit (l : List Nat) : ∀ x ∈ red l, x < 2 := by
  intro x hx
  simp only [red, List.mem_map] at hx
  obtain ⟨y, _, rfl⟩ := hx
  exact Nat.mod_lt _ (by decide)
theorem red_G : red G = G := by decide +kernel
theorem ticks32_top (y : Nat) : ticks 32 (y * 2147483648) = tick y := by
  rw [show (32 : Nat) = 1 + 31 from rfl, ticks_add, show y * 2147483648 = 2 ^ 31 * y by rw [Nat.mul_comm], ticks_pow]
  rfl
/-- A bit fed through 32 steps. -/
theorem ticks32_cons (x : Nat) (l : List Nat) : ticks 32 (wr (x :: l)) = fbit (ticks 32 (wr l)) (x % 2) := by
  rw [fbit_tick _ _ (Nat.mod_lt _ (by decide)), tick_xor, ← ticks_tick]
  simp only [wr]
  rw [ticks_xor, ticks32_top]
/-- The bits of a byte, the highest first: as they stand in front of the bytes behind. -/
def revBits (c : Nat) : List Nat := [c / 128 % 2, c / 64 % 2, c / 32 % 2, c / 16 % 2, c / 8 % 2, c / 4 % 2, c / 2 % 2, c % 2]
/-- The polynomial of bytes. -/
def ofB (b : List Nat) : List Nat := b.foldl (fun l c => revBits c ++ l) []
theorem ofB_snoc (b : List Nat) (c : Nat) : ofB (b ++ [c]) = revBits c ++ ofB b := by simp [ofB]
theorem ofB_length_aux : ∀ (b l : List Nat), (b.foldl (fun l c => revBits c ++ l) l).length = 8 * b.length + l.length
  | [], l => by simp
  | c :: b, l => by
    rw [List.foldl_cons, ofB_length_aux b]
    simp [revBits]
    omega
theorem ofB_length (b : List Nat) : (ofB b).length = 8 * b.length := ofB_length_aux b []
theorem byte_fed (l : List Nat) (c : Nat) : ticks 32 (wr (revBits c ++ l)) = byteStep (ticks 32 (wr l)) c := by
  simp only [revBits, List.cons_append, List.nil_append]
  simp only [ticks32_cons, Nat.mod_mod]
  simp only [byteStep, fbits, Nat.pow_zero, Nat.div_one]
theorem crcN_cons (r c : Nat) (b : List Nat) : crcN r (c :: b) = crcN (byteStep r c) b := by simp [crcN]
theorem crcN_nil (r : Nat) : crcN r [] = r := by simp [crcN]
theorem crc_of_aux : ∀ (b l : List Nat), ticks 32 (wr (b.foldl (fun l c => revBits c ++ l) l)) = crcN (ticks 32 (wr l)) b
  | [], l => by rw [List.foldl_nil, crcN_nil]
  | c :: b, l => by rw [List.foldl_cons, crc_of_aux b, byte_fed, crcN_cons]
theorem crc_of (b : List Nat) : ticks 32 (wr (ofB b)) = crcN 0 b := crc_of_aux b []
theorem byteStep_xor (r s c : Nat) : byteStep (r ^^^ s) c = ticks 8 r ^^^ byteStep s c := by
  unfold byteStep
  rw [fbits_ticks, fbits_ticks, Nat.xor_assoc, ticks_xor]
theorem crcN_xor (r s : Nat) (b : List Nat) : crcN (r ^^^ s) b = ticks (8 * b.length) r ^^^ crcN s b := by
  induction b generalizing r s with
  | nil => rfl
  | cons c b ih =>
    show crcN (byteStep (r ^^^ s) c) b = _ ^^^ crcN (byteStep s c) b
    rw [byteStep_xor, ih, ← ticks_add, List.length_cons]
    congr 2
/-- The remainder of the definition. -/
theorem crc_def (b : List Nat) : wr (addL (List.replicate 32 0 ++ ofB b) (List.replicate (8 * b.length) 0 ++ List.replicate 32 1)) = crcN 4294967295 b := by
  rw [wr_add, wr_shift, wr_shift, crc_of, show wr (List.replicate 32 1) = 4294967295 by decide +kernel, Nat.xor_comm]
  have h := crcN_xor 4294967295 0 b
  rw [Nat.xor_zero] at h
  exact h.symm
/-- A short list's word: a coefficient more. -/
theorem wr_snoc : ∀ (l : List Nat) (c : Nat), l.length ≤ 31 → wr (l ++ [c]) = wr l + c % 2 * 2 ^ (31 - l.length) ∧ wr l % 2 ^ (32 - l.length) = 0
  | [], c, _ => by simp [wr, tick]
  | x :: l, c, h => by
    simp only [List.length_cons] at h
    obtain ⟨e1, e2⟩ := wr_snoc l c (by omega)
    obtain ⟨m, hm⟩ : ∃ m, 31 - l.length = m + 1 := ⟨30 - l.length, by omega⟩
    have hm2 : 32 - l.length = m + 2 := by omega
    have hm3 : 31 - (l.length + 1) = m := by omega
    have hm4 : 32 - (l.length + 1) = m + 1 := by omega
    rw [hm] at e1
    rw [hm2] at e2
    obtain ⟨q, hq⟩ : ∃ q, wr l = 2 ^ (m + 2) * q := ⟨wr l / 2 ^ (m + 2), by have := Nat.div_add_mod (wr l) (2 ^ (m + 2)); omega⟩
    have p1 : 2 ^ (m + 2) = 4 * 2 ^ m := by rw [Nat.pow_add]; omega
    have p2 : 2 ^ (m + 1) = 2 * 2 ^ m := by rw [Nat.pow_add]; omega
    have hc := Nat.mod_lt c (show 0 < 2 by decide)
    have t1 : tick (wr l) = 2 ^ (m + 1) * q := by
      rw [hq, p1, p2, show 4 * 2 ^ m * q = 2 * (2 * 2 ^ m * q) by rw [Nat.mul_assoc, Nat.mul_assoc, ← Nat.mul_assoc 2 2]]
      exact tick_double _
    have t2 : tick (wr (l ++ [c])) = 2 ^ (m + 1) * q + c % 2 * 2 ^ m := by
      rw [e1, hq, p1, p2, show 4 * 2 ^ m * q + c % 2 * (2 * 2 ^ m) = 2 * (2 * 2 ^ m * q + c % 2 * 2 ^ m) by
        rw [Nat.mul_add, Nat.mul_assoc, Nat.mul_assoc, ← Nat.mul_assoc 2 2, ← Nat.mul_assoc (c % 2), Nat.mul_comm (c % 2) 2, Nat.mul_assoc]]
      exact tick_double _
    have hlt : wr (l ++ [c]) < 4294967296 := wr_lt _
    have b2 : tick (wr (l ++ [c])) < 2147483648 := by
      rw [t2]
      rw [e1, hq, p1, p2] at hlt
      have : 2 * (2 * 2 ^ m * q + c % 2 * 2 ^ m) < 4294967296 := by
        have e3 : 4 * 2 ^ m * q = 2 * (2 * 2 ^ m * q) := by rw [← Nat.mul_assoc, ← Nat.mul_assoc]
        have e4 : c % 2 * (2 * 2 ^ m) = 2 * (c % 2 * 2 ^ m) := by rw [← Nat.mul_assoc, Nat.mul_comm (c % 2) 2, Nat.mul_assoc]
        omega
      rw [p2]
      omega
    have b1 : tick (wr l) < 2147483648 := by rw [t1]; rw [t2] at b2; omega
    have xt : ∀ y, y < 2147483648 → y ^^^ x % 2 * 2147483648 = y + x % 2 * 2147483648 := fun y hy => by
      rw [Nat.mul_comm (x % 2), Nat.xor_comm, Nat.add_comm]
      have h1 := Nat.two_pow_add_eq_or_of_lt (i := 31) (b := y) (by simpa using hy) (x % 2)
      simp only [Nat.reducePow] at h1
      rw [h1]
      apply Nat.eq_of_testBit_eq
      intro j
      rw [Nat.testBit_xor, Nat.testBit_or]
      have h2 := Nat.testBit_two_pow_mul (i := 31) (a := x % 2) (j := j)
      simp only [Nat.reducePow] at h2
      rw [h2]
      by_cases hj : 31 ≤ j
      · have h3 : y.testBit j = false := Nat.testBit_lt_two_pow (Nat.lt_of_lt_of_le hy (Nat.pow_le_pow_right (by decide) hj (n := 2)))
        simp [h3]
      · simp [hj]
    constructor
    · simp only [List.cons_append, wr, List.length_cons]
      rw [xt _ b2, xt _ b1, t1, t2, hm3]
      omega
    · simp only [wr, List.length_cons]
      rw [xt _ b1, t1, hm4]
      have p3 : (2147483648 : Nat) = 2 ^ (m + 1) * 2 ^ (30 - m) := by rw [← Nat.pow_add, show m + 1 + (30 - m) = 31 by omega]
      rw [p3, ← Nat.mul_assoc, Nat.mul_comm (x % 2), Nat.mul_assoc, ← Nat.mul_add]
      exact Nat.mul_mod_right _ _
/-! ### the checksum -/
/-- The checksum of bytes. -/
def crcF (b : List Nat) : Nat := 4294967295 - crcN 4294967295 b
/-- A packet with zeros in its field. -/
def blankField (b : List Nat) : List Nat := b.take 8 ++ List.replicate 4 0 ++ b.drop 12
theorem not_xor {r : Nat} (h : r < 4294967296) : 4294967295 ^^^ r = 4294967295 - r := by
  apply Nat.eq_of_testBit_eq
  intro j
  have h1 := Nat.testBit_two_pow_sub_succ (n := 32) (x := r) (by simpa using h) j
  have h2 := Nat.testBit_two_pow_sub_one 32 j
  simp only [Nat.reducePow, Nat.reduceSub] at h1 h2
  rw [Nat.testBit_xor, h2, show 4294967295 - r = 4294967296 - (r + 1) by omega, h1]
  by_cases hj : j < 32
  · simp [hj]
  · have : r.testBit j = false := Nat.testBit_lt_two_pow (Nat.lt_of_lt_of_le (by simpa using h) (Nat.pow_le_pow_right (by decide) (show 32 ≤ j by omega) (n := 2)))
    simp [hj, this]
theorem crcF_lt (b : List Nat) : crcF b < 4294967296 := by unfold crcF; omega
end Go.Proofs.Ytfhnakebfiaccaa.M
