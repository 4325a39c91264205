/- What the printed functions of the program's polynomials come to, as lists of numbers: Of, Mod by the generator, Word; and crc.Slow: the checksum of the bytes. -/
import Derived.Test.YtfhnakebfiaccaaP4
namespace Go.Proofs.Ytfhnakebfiaccaa.P
open Go.RowKit Go.Proofs.Ytfhnakebfiaccaa.M Go.Proofs.YtfhnakebfiaccaaW.PrintWords Go.Proofs.YtfhnakebfiaccaaW.PrintLast Go.Proofs.YtfhnakebfiaccaaW.PrintMore

theorem snoc_ind {P : List Nat → Prop} (h0 : P []) (h1 : ∀ b c, P b → P (b ++ [c])) (b : List Nat) : P b := by
  rw [← List.reverse_reverse b]
  generalize b.reverse = l
  induction l with
  | nil => exact h0
  | cons c l ih => rw [List.reverse_cons]; exact h1 _ _ ih
/-! ### poly.Of -/
def bitAt (b : List Nat) (k : Nat) : Nat := b[k / 8]?.getD 0 / 2 ^ (k % 8) % 2
theorem ofB_get (b : List Nat) : ∀ i, i < 8 * b.length → (ofB b)[i]? = some (bitAt b (8 * b.length - 1 - i)) := by
  refine snoc_ind (P := fun b => ∀ i, i < 8 * b.length → (ofB b)[i]? = some (bitAt b (8 * b.length - 1 - i))) ?_ ?_ b
  · intro i h
    simp at h
  · intro b c ih i hi
    rw [ofB_snoc]
    have hl : (b ++ [c]).length = b.length + 1 := by simp
    rw [hl] at hi ⊢
    by_cases h8 : i < 8
    · rw [List.getElem?_append_left (by simp [revBits]; omega)]
      have e : bitAt (b ++ [c]) (8 * (b.length + 1) - 1 - i) = c / 2 ^ (7 - i) % 2 := by
        unfold bitAt
        rw [show (8 * (b.length + 1) - 1 - i) / 8 = b.length by omega, show (8 * (b.length + 1) - 1 - i) % 8 = 7 - i by omega]
        simp
      rw [e]
      match i, h8 with
      | 0, _ => rfl
      | 1, _ => rfl
      | 2, _ => rfl
      | 3, _ => rfl
      | 4, _ => rfl
      | 5, _ => rfl
      | 6, _ => rfl
      | 7, _ => simp [revBits]
      | i + 8, h => omega
    · rw [List.getElem?_append_right (by simp [revBits]; omega)]
      have e8 : (revBits c).length = 8 := rfl
      rw [e8, ih (i - 8) (by omega)]
      congr 1
      unfold bitAt
      rw [show 8 * b.length - 1 - (i - 8) = 8 * (b.length + 1) - 1 - i by omega, List.getElem?_append_left (by omega)]
theorem ofB_bit (b : List Nat) (i : Nat) : (ofB b)[i]?.getD 0 < 2 := by
  by_cases h : i < 8 * b.length
  · rw [ofB_get b i h]; exact Nat.mod_lt _ (by decide)
  · rw [List.getElem?_eq_none (by rw [ofB_length]; omega)]; decide
theorem ofB_bytes (b : List Nat) : ByteN (ofB b) := by
  intro x hx
  obtain ⟨i, hi, rfl⟩ := List.getElem_of_mem hx
  have h := ofB_bit b i
  rw [List.getElem?_eq_getElem hi, Option.getD_some] at h
  omega
/-- A list filled in up to i. -/
def fillTo (l : List Nat) (i : Nat) : List Nat := l.take i ++ List.replicate (l.length - i) 0
theorem fillTo_length (l : List Nat) (i : Nat) (h : i ≤ l.length) : (fillTo l i).length = l.length := by simp [fillTo]; omega
theorem fillTo_step (l : List Nat) (i : Nat) (h : i < l.length) : (fillTo l i).set i (l[i]?.getD 0) = fillTo l (i + 1) := by
  have e1 : l.take (i + 1) = l.take i ++ [l[i]] := List.take_succ_eq_append_getElem h
  have e2 : List.replicate (l.length - i) 0 = 0 :: List.replicate (l.length - (i + 1)) 0 := by rw [show l.length - i = (l.length - (i + 1)) + 1 by omega, List.replicate_succ]
  rw [fillTo, fillTo, e1, e2, List.append_assoc, List.set_append_right _ _ (by simp; omega)]
  congr 1
  have e3 : i - (l.take i).length = 0 := by simp; omega
  rw [e3]
  simp [h]
theorem fillTo_all (l : List Nat) : fillTo l l.length = l := by simp [fillTo]
theorem fillTo_zero (l : List Nat) : fillTo l 0 = List.replicate l.length 0 := by simp [fillTo]
theorem shr8 (x m : Nat) (h : m ≤ 8) : shr .u8 (x : Int) (m : Int) = ((x / 2 ^ m : Nat) : Int) := by
  unfold shr
  rw [Int.toNat_natCast, show min m IntKind.u8.bits = m from Nat.min_eq_left h]
  simp
theorem of_loop {b : List Nat} (hb : ByteN b) (hs : b.length ≤ 131072) (d : Nat) : ∀ i, i ≤ 8 * b.length → 8 * b.length - i = d →
    Ev (fun k => poly_Of.l0 k (iN b) (iN (fillTo (ofB b) i)) ((8 * b.length : Nat) : Int) (i : Int)) (iN (red (ofB b))) := by
  have hl := ofB_length b
  induction d with
  | zero =>
    intro i hi hd
    obtain rfl : i = 8 * b.length := by omega
    have hr := reduce_pure (ofB_bytes b) (by rw [hl]; omega)
    refine Ev.step (fun k => ?_) (Ev.bind hr (Ev.now _))
    simp only [poly_Of.l0]
    rw [if_neg (by omega), ← hl, fillTo_all]
  | succ d ih =>
    intro i hi hd
    refine Ev.step (fun k => ?_) (ih (i + 1) (by omega) (by omega))
    simp only [poly_Of.l0]
    have hfl : (iN (fillTo (ofB b) i)).length = 8 * b.length := by rw [iN_length, fillTo_length _ _ (by omega), hl]
    have ew : wrap64 (wrap64 (((iN (fillTo (ofB b) i)).length : Int) - 1) - (i : Int)) = ((8 * b.length - 1 - i : Nat) : Int) := by
      rw [hfl, wrap_id (x := ((8 * b.length : Nat) : Int) - 1) (by omega), wrap_id (by omega)]
      omega
    have ed : wrap64 (Int.tdiv ((8 * b.length - 1 - i : Nat) : Int) 8) = (((8 * b.length - 1 - i) / 8 : Nat) : Int) := by
      rw [show Int.tdiv ((8 * b.length - 1 - i : Nat) : Int) 8 = (((8 * b.length - 1 - i) / 8 : Nat) : Int) from rfl, wrap_id (by omega)]
    have em : Int.tmod ((8 * b.length - 1 - i : Nat) : Int) 8 = (((8 * b.length - 1 - i) % 8 : Nat) : Int) := rfl
    rw [ew, ed, em, if_pos (by omega), if_pos (by omega), if_pos (by rw [iN_length]; omega), if_pos (by omega), if_pos (by omega), if_pos (by rw [hfl]; omega), Int.toNat_natCast, rd_iN, shr8 _ _ (by omega),
      and_one (Nat.lt_of_le_of_lt (Nat.div_le_self _ _) (byteN_get hb _)), iN_set]
    have e : b[(8 * b.length - 1 - i) / 8]?.getD 0 / 2 ^ ((8 * b.length - 1 - i) % 8) % 2 = (ofB b)[i]?.getD 0 := by
      rw [ofB_get b i (by omega)]
      rfl
    rw [e, fillTo_step _ _ (by omega), wrap_id (by omega)]
    rfl
theorem of_pure {b : List Nat} (hb : ByteN b) (hs : b.length ≤ 131072) : Ev (fun k => poly_Of.f k (iN b)) (iN (red (ofB b))) := by
  refine Ev.congr (fun k => ?_) (of_loop hb hs (8 * b.length) 0 (Nat.zero_le _) (by omega))
  unfold poly_Of.f
  have e : wrap64 (8 * ((iN b).length : Int)) = ((8 * b.length : Nat) : Int) := by rw [iN_length, wrap_id (by omega)]; omega
  rw [e, if_pos (by omega), if_pos (by omega), Int.toNat_natCast, Option.bind_some, List.length_replicate, fillTo_zero, iN_replicate, ofB_length]
  rfl

/-! ### poly.Mod by the generator -/
def Bits (l : List Nat) : Prop := ∀ x ∈ l, x < 2
theorem bits_bytes {l : List Nat} (h : Bits l) : ByteN l := fun x hx => Nat.lt_trans (h x hx) (by decide)
theorem bits_get {l : List Nat} (h : Bits l) (i : Nat) : l[i]?.getD 0 < 2 := by
  by_cases hi : i < l.length
  · rw [List.getElem?_eq_getElem hi]; exact h _ (List.getElem_mem hi)
  · rw [List.getElem?_eq_none (by omega)]; decide
theorem bits_co {l : List Nat} (h : Bits l) (i : Nat) : co l i = l[i]?.getD 0 := Nat.mod_eq_of_lt (bits_get h i)
def shG (s : Nat) : List Nat := List.replicate s 0 ++ G
theorem shG_length (s : Nat) : (shG s).length = s + 33 := by simp [shG, G]
theorem shG_get (s k : Nat) : (shG s)[s + k]?.getD 0 = G[k]?.getD 0 := by
  rw [shG, List.getElem?_append_right (by simp)]
  simp
theorem shG_low (s m : Nat) (h : m < s) : (shG s)[m]?.getD 0 = 0 := by
  rw [shG, List.getElem?_append_left (by simpa using h)]
  simp [h]
theorem bits_G : Bits G := by
  have h : ∀ x ∈ G, x < 2 := by decide
  exact h
theorem shG_bits (s : Nat) : Bits (shG s) := by
  intro x hx
  rcases List.mem_append.1 hx with h | h
  · rw [List.eq_of_mem_replicate h]; decide
  · exact bits_G x h
theorem addTo_low (out p : List Nat) (s : Nat) (h : ∀ m, m < s → p[m]?.getD 0 = 0) : addTo out p s = out := by
  apply List.ext_getElem?
  intro m
  by_cases hm : m < out.length
  · rw [addTo_get _ _ _ _ hm]
    by_cases h1 : m < s
    · rw [if_pos h1, h m h1, Nat.xor_zero, List.getElem?_eq_getElem hm]; rfl
    · rw [if_neg h1, List.getElem?_eq_getElem hm]; rfl
  · rw [List.getElem?_eq_none (by rw [addTo_length]; omega), List.getElem?_eq_none (by omega)]
theorem addTo_bits {out p : List Nat} (ho : Bits out) (hp : Bits p) (i : Nat) : Bits (addTo out p i) := by
  intro x hx
  simp only [addTo, List.mem_map, List.mem_range] at hx
  obtain ⟨m, hm, rfl⟩ := hx
  split
  · exact Nat.xor_lt_two_pow (n := 1) (by simpa using bits_get ho m) (by simpa using bits_get hp m)
  · exact bits_get ho m
theorem wr_addTo {out p : List Nat} (h : p.length ≤ out.length) : wr (addTo out p p.length) = wr out ^^^ wr p := by
  rw [← wr_add]
  exact wr_congr _ _ (fun i => by rw [co_addTo h, co_add])
theorem wr_shG (s : Nat) : wr (shG s) = 0 := by rw [shG, wr_shift, wr_G, ticks_zero]
theorem mod_inner {out : List Nat} (hb : Bits out) (hs : out.length ≤ 1099511627776) (i : Nat) (hi : i < out.length) (h32 : 32 ≤ i) {r : List Int × Bool}
    (hnext : Ev (fun k => poly_Mod.l0 k (iN G) 32 (iN (addTo out (shG (i - 32)) (i + 1))) ((i : Int) - 1)) r) (d : Nat) : ∀ m, m ≤ 33 → 33 - m = d →
    Ev (fun k => poly_Mod.l1 k (iN G) 32 (iN (addTo out (shG (i - 32)) (i - 32 + m))) (i : Int) 33 (m : Int)) r := by
  induction d with
  | zero =>
    intro m hm hd
    obtain rfl : m = 33 := by omega
    refine Ev.step (fun k => ?_) hnext
    simp only [poly_Mod.l1]
    rw [if_neg (by omega), show i - 32 + 33 = i + 1 by omega, wrap_id (by omega)]
  | succ d ih =>
    intro m hm hd
    refine Ev.step (fun k => ?_) (ih (m + 1) (by omega) (by omega))
    simp only [poly_Mod.l1]
    have ew : wrap64 (wrap64 ((i : Int) - 32) + (m : Int)) = ((i - 32 + m : Nat) : Int) := by
      rw [wrap_id (x := (i : Int) - 32) (by omega), wrap_id (by omega)]
      omega
    have hl : (iN (addTo out (shG (i - 32)) (i - 32 + m))).length = out.length := by rw [iN_length, addTo_length]
    have hG : (iN G).length = 33 := rfl
    rw [ew, if_pos (by omega), if_pos (by omega), if_pos (by rw [hl]; omega), if_pos (by omega), if_pos (by rw [hG]; omega), Int.toNat_natCast, rd_iN, rd_iN, addTo_at,
      and_one (Nat.lt_trans (bits_get bits_G m) (by decide)), Nat.mod_eq_of_lt (bits_get bits_G m), xor8 (Nat.lt_trans (bits_get hb _) (by decide)) (Nat.lt_trans (bits_get bits_G m) (by decide)), iN_set,
      ← shG_get (i - 32) m, addTo_step, wrap_id (by omega)]
    rfl
theorem mod_loop (d : Nat) : ∀ (i : Nat) (out : List Nat), i + 1 - 32 = d → Bits out → out.length ≤ 1099511627776 → i ≤ out.length → (∀ j, i ≤ j → out[j]?.getD 0 = 0) →
    ∃ o : List Nat, Ev (fun k => poly_Mod.l0 k (iN G) 32 (iN out) ((i : Int) - 1)) (iN (red o), true) ∧ wr o = wr out ∧ (∀ j, 32 ≤ j → co o j = 0) := by
  induction d with
  | zero =>
    intro i out hd hb hs hi hz
    refine ⟨out, ?_, rfl, fun j hj => ?_⟩
    · refine Ev.step (fun k => ?_) (Ev.bind (f := fun _ l => some (l, true)) (reduce_pure (bits_bytes hb) hs) (Ev.now _))
      simp only [poly_Mod.l0]
      rw [if_neg (by omega)]
    · rw [bits_co hb]; exact hz j (by omega)
  | succ d ih =>
    intro i out hd hb hs hi hz
    by_cases h33 : i < 33
    · -- nothing is left to divide
      refine ⟨out, ?_, rfl, fun j hj => ?_⟩
      · refine Ev.step (fun k => ?_) (Ev.bind (f := fun _ l => some (l, true)) (reduce_pure (bits_bytes hb) hs) (Ev.now _))
        simp only [poly_Mod.l0]
        rw [if_neg (by omega)]
      · rw [bits_co hb]; exact hz j (by omega)
    · obtain ⟨t, rfl⟩ : ∃ t, i = t + 1 := ⟨i - 1, by omega⟩
      have et : ((t + 1 : Nat) : Int) - 1 = (t : Int) := by omega
      by_cases h0 : out[t]?.getD 0 = 0
      · obtain ⟨o, h1, h2, h3⟩ := ih t out (by omega) hb hs (by omega) (fun j hj => by
          by_cases e : j = t
          · rw [e]; exact h0
          · exact hz j (by omega))
        refine ⟨o, Ev.step (fun k => ?_) h1, h2, h3⟩
        simp only [poly_Mod.l0]
        rw [et, if_pos (by omega), if_pos (by omega), if_pos (by rw [iN_length]; omega), rd_iN, h0, if_pos (show ((0 : Nat) : Int) = 0 from rfl), wrap_id (by omega)]
      · have h1 : out[t]?.getD 0 = 1 := by have := bits_get hb t; omega
        have hpl : (shG (t - 32)).length = t + 1 := by rw [shG_length]; omega
        obtain ⟨o, e1, e2, e3⟩ := ih t (addTo out (shG (t - 32)) (t + 1)) (by omega) (addTo_bits hb (shG_bits _) _) (by rw [addTo_length]; exact hs) (by rw [addTo_length]; omega) (fun j hj => by
          by_cases hj2 : j < out.length
          · rw [addTo_get _ _ _ _ hj2, Option.getD_some]
            by_cases e : j = t
            · have g32 := shG_get (t - 32) 32
              rw [show t - 32 + 32 = t by omega] at g32
              rw [if_pos (by omega), e, h1, g32]
              rfl
            · rw [if_neg (by omega)]; exact hz j (by omega)
          · rw [List.getElem?_eq_none (by rw [addTo_length]; omega)]; rfl)
        have hin := mod_inner hb hs t (by omega) (by omega) e1 33 0 (by decide) rfl
        rw [Nat.add_zero, addTo_low _ _ _ (shG_low _)] at hin
        refine ⟨o, Ev.step (fun k => ?_) hin, ?_, e3⟩
        · simp only [poly_Mod.l0]
          rw [et, if_pos (by omega), if_pos (by omega), if_pos (by rw [iN_length]; omega), rd_iN, h1, if_neg (by decide), wrap_id (by omega)]
          rfl
        · rw [e2, ← hpl, wr_addTo (by omega), wr_shG, Nat.xor_zero]
theorem lead_G : lead G = 33 := by decide +kernel
theorem mod_pure {a : List Nat} (ha : ByteN a) (hs : a.length ≤ 1099511627776) : ∃ o : List Nat, Ev (fun k => poly_Mod.f k (iN a) (iN G)) (iN (red o), true) ∧ wr o = wr a ∧ (∀ j, 32 ≤ j → co o j = 0) := by
  have hll := lead_le a
  have hrl := red_length a
  obtain ⟨o, h1, h2, h3⟩ := mod_loop (lead a + 1 - 32) (lead a) (red a) rfl (red_bit a) (by omega) (by omega) (fun j hj => by
    rw [List.getElem?_eq_none (by omega)]; rfl)
  refine ⟨o, ?_, by rw [h2, wr_red], h3⟩
  refine Ev.congr (fun k => ?_) (Ev.bind (reduce_pure ha hs) (f := fun k l => poly_Mod.l0 k (iN G) 32 l (wrap64 ((l.length : Int) - 1))) ?_)
  · unfold poly_Mod.f poly_Degree.f
    rw [if_pos (bytes_iN (bits_bytes bits_G)), toN_iN, lead_G, Option.bind_some, if_neg (by decide)]
    rfl
  · refine Ev.congr (fun k => ?_) h1
    rw [iN_length, hrl, wrap_id (by omega)]

/-! ### poly.Word -/
theorem shl32 {c m : Nat} (hc : c < 2) (hm : m ≤ 31) : shl .u32 ((c : Int) % 4294967296) (m : Int) = ((c * 2 ^ m : Nat) : Int) := by
  have h1 : 2 ^ m ≤ 2 ^ 31 := Nat.pow_le_pow_right (by decide) hm
  have h2 : c * 2 ^ m < 4294967296 := by
    have : c = 0 ∨ c = 1 := by omega
    rcases this with rfl | rfl
    · simp
    · rw [Nat.one_mul]; exact Nat.lt_of_le_of_lt h1 (by decide)
  have e0 : (c : Int) % 4294967296 = (c : Int) := by omega
  unfold shl
  rw [e0, Int.toNat_natCast, show min m IntKind.u32.bits = m from Nat.min_eq_left (by show m ≤ 32; omega), IntKind.wrap_u32']
  have e1 : (c : Int) * 2 ^ m = ((c * 2 ^ m : Nat) : Int) := by simp
  rw [e1]
  omega
theorem or_top {q m c : Nat} (hq : q % 2 ^ (m + 1) = 0) (hc : c < 2) : q ||| c * 2 ^ m = q + c * 2 ^ m := by
  obtain ⟨t, ht⟩ : ∃ t, q = 2 ^ (m + 1) * t := ⟨q / 2 ^ (m + 1), by have := Nat.div_add_mod q (2 ^ (m + 1)); omega⟩
  rw [ht]
  exact (Nat.two_pow_add_eq_or_of_lt (i := m + 1) (b := c * 2 ^ m) (by
    rw [Nat.pow_succ, Nat.mul_comm]
    exact Nat.mul_lt_mul_of_pos_left hc (Nat.two_pow_pos m)) t).symm
theorem word_loop {l : List Nat} (hb : Bits l) (hl : l.length ≤ 32) (d : Nat) : ∀ i, i ≤ l.length → l.length - i = d →
    Ev (fun k => poly_Word.l0 k ((wr (l.take i) : Nat) : Int) (iN l) (l.length : Int) (i : Int)) (((wr l : Nat) : Int), true) := by
  induction d with
  | zero =>
    intro i hi hd
    obtain rfl : i = l.length := by omega
    refine Ev.step (f := fun _ => some (((wr l : Nat) : Int), true)) (fun k => ?_) (Ev.now _)
    simp only [poly_Word.l0]
    rw [if_neg (by omega), List.take_length]
  | succ d ih =>
    intro i hi hd
    have hlt : i < l.length := by omega
    refine Ev.step (fun k => ?_) (ih (i + 1) (by omega) (by omega))
    simp only [poly_Word.l0]
    have e1 : l.take (i + 1) = l.take i ++ [l[i]] := List.take_succ_eq_append_getElem hlt
    have hti : (l.take i).length = i := by rw [List.length_take]; omega
    obtain ⟨w1, w2⟩ := wr_snoc (l.take i) l[i] (by omega)
    rw [hti] at w1 w2
    have hc := bits_get hb i
    have hci : l[i]?.getD 0 = l[i] := by rw [List.getElem?_eq_getElem hlt]; rfl
    rw [hci] at hc
    have ew : wrap64 (31 - (i : Int)) = ((31 - i : Nat) : Int) := by rw [wrap_id (by omega)]; omega
    rw [if_pos (by omega), if_pos (by omega), if_pos (by rw [iN_length]; omega), ew, if_pos (by omega), rd_iN, hci, shl32 hc (by omega)]
    have e2 : wr (l.take (i + 1)) = wr (l.take i) ||| l[i] * 2 ^ (31 - i) := by
      rw [e1, w1, Nat.mod_eq_of_lt hc, or_top (by rw [show 31 - i + 1 = 32 - i by omega]; exact w2) hc]
    have e3 : Go.bits .or .u32 ((wr (l.take i) : Nat) : Int) ((l[i] * 2 ^ (31 - i) : Nat) : Int) = ((wr (l.take i) ||| l[i] * 2 ^ (31 - i) : Nat) : Int) :=
      u32_or_nat _ _ (wr_lt _) (by
        have h1 : 2 ^ (31 - i) ≤ 2 ^ 31 := Nat.pow_le_pow_right (by decide) (by omega)
        have : l[i] = 0 ∨ l[i] = 1 := by omega
        rcases this with e | e <;> rw [e]
        · simp
        · rw [Nat.one_mul]; exact Nat.lt_of_le_of_lt h1 (by decide))
    rw [e3, ← e2, wrap_id (by omega)]
    rfl
theorem word_pure {p : List Nat} (hp : ByteN p) (hs : p.length ≤ 1099511627776) (h : ∀ j, 32 ≤ j → co p j = 0) : Ev (fun k => poly_Word.f k (iN p)) (((wr p : Nat) : Int), true) := by
  have hl : lead p ≤ 32 := by
    rcases Nat.lt_or_ge 32 (lead p) with h1 | h1
    · have := lead_odd p (by omega)
      rw [h (lead p - 1) (by omega)] at this
      cases this
    · exact h1
  have hrl := red_length p
  refine Ev.congr (fun k => ?_) (Ev.bind (reduce_pure hp hs) (f := fun k l => poly_Word.l0 k 0 l (l.length : Int) 0) ?_)
  · unfold poly_Word.f poly_Degree.f
    rw [if_pos (bytes_iN hp), toN_iN, Option.bind_some, if_neg (by omega)]
  · have h0 := word_loop (red_bit p) (by omega) (red p).length 0 (Nat.zero_le _) (by omega)
    rw [wr_red] at h0
    refine Ev.congr (fun k => ?_) h0
    rw [iN_length]
    rfl

/-! ### crc.Slow -/
theorem slow_pure {b : List Nat} (hb : ByteN b) (hs : b.length ≤ 4096) : Ev (fun k => crc_Slow.f k (iN b)) ((crcF b : Nat) : Int) := by
  have l1 := red_length (ofB b)
  have l2 := lead_le (ofB b)
  rw [ofB_length] at l2
  have s1 := of_pure hb (by omega)
  have s2 := shift_pure (byteN_red (ofB b)) (by omega) 32 (by decide)
  have s3 := shift_pure (l := List.replicate 32 1) (fun x hx => by rw [List.eq_of_mem_replicate hx]; decide) (by decide) (8 * b.length) (by omega)
  obtain ⟨X, hX⟩ : ∃ X, X = red (List.replicate 32 0 ++ red (ofB b)) := ⟨_, rfl⟩
  obtain ⟨Y, hY⟩ : ∃ Y, Y = red (List.replicate (8 * b.length) 0 ++ List.replicate 32 1) := ⟨_, rfl⟩
  rw [← hX] at s2
  rw [← hY] at s3
  have hXl : X.length ≤ 1048576 := by
    rw [hX, red_length]
    refine Nat.le_trans (lead_le _) ?_
    simp
    omega
  have hYl : Y.length ≤ 1048576 := by
    rw [hY, red_length]
    refine Nat.le_trans (lead_le _) ?_
    simp
    omega
  have hXb : ByteN X := by rw [hX]; exact byteN_red _
  have hYb : ByteN Y := by rw [hY]; exact byteN_red _
  have sadd : poly_Add.f (iN X) [iN Y] = some (iN (red (addL X Y))) := by
    simp only [poly_Add.f]
    rw [if_pos ⟨bytes_iN hXb, bytes_iN hYb, by rw [iN_length]; exact hXl, by rw [iN_length]; exact hYl⟩, toN_iN, toN_iN]
  have hZl : (red (addL X Y)).length ≤ 1099511627776 := by
    rw [red_length]
    have : lead (addL X Y) ≤ X.length + Y.length := by
      refine Nat.le_of_not_lt (fun h => ?_)
      have h1 := lead_odd (addL X Y) (by omega)
      rw [co_add] at h1
      have e1 : co X (lead (addL X Y) - 1) = 0 := by simp only [co]; rw [List.getElem?_eq_none (by omega)]; rfl
      have e2 : co Y (lead (addL X Y) - 1) = 0 := by simp only [co]; rw [List.getElem?_eq_none (by omega)]; rfl
      rw [e1, e2] at h1
      cases h1
    omega
  obtain ⟨o, m1, m2, m3⟩ := mod_pure (byteN_red (addL X Y)) hZl
  have hol : (red o).length ≤ 1099511627776 := by
    rw [red_length]
    have : lead o ≤ 32 := by
      refine Nat.le_of_not_lt (fun h => ?_)
      have h1 := lead_odd o (by omega)
      rw [m3 _ (by omega)] at h1
      cases h1
    omega
  have hw := word_pure (byteN_red o) hol (fun j hj => by rw [co_red]; exact m3 j hj)
  have key : wr (red o) = crcN 4294967295 b := by
    rw [wr_red, m2, wr_red, ← crc_def, wr_add, wr_add, hX, hY, wr_red, wr_red, wr_shift, wr_red, wr_shift, wr_shift]
  rw [key] at hw
  have fin : Go.bits .xor .u32 4294967295 ((crcN 4294967295 b : Nat) : Int) = ((crcF b : Nat) : Int) := not_walk (crcN_lt _ (by decide))
  have ones : poly_Ones.f 32 = some (iN (List.replicate 32 1)) := by decide +kernel
  have e8 : ∀ k : Nat, wrap64 (8 * ((iN b).length : Int)) = ((8 * b.length : Nat) : Int) := fun _ => by rw [iN_length, wrap_id (by omega)]; omega
  unfold crc_Slow.f
  refine Ev.bind s1 (Ev.bind s2 ?_)
  refine Ev.congr (fun k => ?_) (Ev.bind s3 (f := fun k t => (poly_Add.f (iN X) [t]).bind fun t166 => (poly_Generator.f).bind fun t169 => (poly_Mod.f k t166 t169).bind fun bt172 => (poly_Word.f k bt172.1).bind fun bt176 => some (Go.bits .xor .u32 4294967295 bt176.1)) ?_)
  · rw [ones, Option.bind_some, e8 k]
  · refine Ev.congr (fun k => ?_) (Ev.bind m1 (f := fun k bt172 => (poly_Word.f k bt172.1).bind fun bt176 => some (Go.bits .xor .u32 4294967295 bt176.1)) (Ev.bind hw ?_))
    · rw [sadd, Option.bind_some]
      rfl
    · rw [fin]
      exact Ev.now _
end Go.Proofs.Ytfhnakebfiaccaa.P
