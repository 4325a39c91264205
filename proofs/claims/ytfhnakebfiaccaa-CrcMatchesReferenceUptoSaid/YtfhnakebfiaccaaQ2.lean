/- The definition's remainder, word and sum: plain mathematics over lists of numbers. -/
import Derived.Test.YtfhnakebfiaccaaQ1
namespace Go.Proofs.Ytfhnakebfiaccaa.P
open Go.RowKit Go.Proofs.Ytfhnakebfiaccaa.M Go.Proofs.YtfhnakebfiaccaaW.PrintWords Go.Proofs.YtfhnakebfiaccaaW.PrintLast

/-! ### Mod -/
/-- The register, shifted above m. -/
def regUp (o : List Nat) (m : Nat) : List Nat := o.take (m + 1) ++ (o.drop m).take (32 - m)
theorem regUp_length {o : List Nat} (h : o.length = 33) (m : Nat) (hm : m ≤ 32) : (regUp o m).length = 33 := by
  simp [regUp, h]
  omega
theorem regUp_get {o : List Nat} (h : o.length = 33) (m : Nat) (hm : m ≤ 32) (i : Nat) (hi : i < 33) : (regUp o m)[i]? = if i ≤ m then o[i]? else o[i - 1]? := by
  unfold regUp
  by_cases hc : i ≤ m
  · rw [if_pos hc, List.getElem?_append_left (by rw [List.length_take]; omega), List.getElem?_take, if_pos (by omega)]
  · have hl : (o.take (m + 1)).length = m + 1 := by rw [List.length_take]; omega
    rw [if_neg hc, List.getElem?_append_right (by omega), hl, List.getElem?_take, if_pos (by omega), List.getElem?_drop]
    congr 1
    omega
theorem regUp_top {o : List Nat} (h : o.length = 33) : regUp o 32 = o := by
  unfold regUp
  rw [show 32 - 32 = 0 from rfl, List.take_zero, List.append_nil, List.take_of_length_le (by omega)]
theorem regUp_step {o : List Nat} (h : o.length = 33) (m : Nat) (hm : m + 1 ≤ 32) : (regUp o (m + 1)).set (m + 1) (o[m]?.getD 0) = regUp o m := by
  apply List.ext_getElem?
  intro i
  have l1 := regUp_length h (m + 1) hm
  have l2 := regUp_length h m (by omega)
  rw [List.getElem?_set]
  by_cases hi : i < 33
  · by_cases e : m + 1 = i
    · subst e
      rw [if_pos rfl, if_pos (by omega), regUp_get h m (by omega) _ hi, if_neg (by omega), Nat.add_sub_cancel, List.getElem?_eq_getElem (show m < o.length by omega)]
      rfl
    · rw [if_neg e, regUp_get h (m + 1) hm i hi, regUp_get h m (by omega) i hi]
      by_cases h1 : i ≤ m
      · rw [if_pos (by omega), if_pos h1]
      · rw [if_neg (by omega), if_neg h1]
  · rw [if_neg (by omega), List.getElem?_eq_none (by omega), List.getElem?_eq_none (by omega)]
theorem regUp_set {o : List Nat} (h : o.length = 33) (x : Nat) : (regUp o 0).set 0 x = x :: o.take 32 := by
  match o, h with
  | y :: o, _ => rfl
theorem bits_cons {x : Nat} {o : List Nat} (hx : x < 2) (ho : Bits o) : Bits (x :: o) := by
  intro y hy
  rcases List.mem_cons.1 hy with rfl | hy
  · exact hx
  · exact ho y hy
theorem bits_take {o : List Nat} (ho : Bits o) (n : Nat) : Bits (o.take n) := fun y hy => ho y (List.mem_of_mem_take hy)
theorem xor_bit {x y : Nat} (hx : x < 2) (hy : y < 2) : x ^^^ y = (x + y) % 2 := by
  rcases (show x = 0 ∨ x = 1 by omega) with rfl | rfl <;> rcases (show y = 0 ∨ y = 1 by omega) with rfl | rfl <;> rfl
/-- The division of one coefficient. -/
theorem ref4Mod_add {a o : List Nat} (ho : o.length = 33) (hb : Bits o) (i : Int) {r : List Int × Bool}
    (hnext : Ev (fun k => wharfref04_Mod.l0 k (iN a) (iN G) 32 (iN (addTo o G 33)) (wrap64 (i - 1))) r) (d : Nat) : ∀ j, j ≤ 33 → 33 - j = d →
    Ev (fun k => wharfref04_Mod.l2 k (iN a) (iN G) 32 (iN (addTo o G j)) i (j : Int)) r := by
  have hG : (iN G).length = 33 := by decide
  induction d with
  | zero =>
    intro j hj hd
    obtain rfl : j = 33 := by omega
    refine Ev.step (fun k => ?_) hnext
    simp only [wharfref04_Mod.l2]
    rw [if_neg (by decide)]
  | succ d ih =>
    intro j hj hd
    refine Ev.step (fun k => ?_) (ih (j + 1) (by omega) (by omega))
    have h1 := bits_get hb j
    have h2 := bits_get bits_G j
    have e : Int.tmod ((rd (iN (addTo o G j)) (j : Int) + rd (iN G) (j : Int)) % 256) 2 = ((o[j]?.getD 0 ^^^ G[j]?.getD 0 : Nat) : Int) := by
      rw [rd_iN, rd_iN, addTo_at, xor_bit h1 h2, Int.tmod_eq_emod_of_nonneg (by omega)]
      omega
    simp only [wharfref04_Mod.l2]
    rw [if_pos (by omega), if_pos (by omega), if_pos (by rw [iN_length, addTo_length]; omega), if_pos (by rw [hG]; omega), e, Int.toNat_natCast, iN_set, addTo_step, wrap_id (by omega)]
    rfl
theorem ref4Mod_shift {a o : List Nat} (ho : o.length = 33) (i : Nat) (hi : i < a.length) {r : List Int × Bool}
    (hnext : Ev (fun k => if (a[i]?.getD 0 % 2 :: o.take 32)[32]?.getD 0 = 1 then wharfref04_Mod.l2 k (iN a) (iN G) 32 (iN (a[i]?.getD 0 % 2 :: o.take 32)) (i : Int) 0 else wharfref04_Mod.l0 k (iN a) (iN G) 32 (iN (a[i]?.getD 0 % 2 :: o.take 32)) (wrap64 ((i : Int) - 1))) r) (m : Nat) : m ≤ 32 →
    Ev (fun k => wharfref04_Mod.l1 k (iN a) (iN G) 32 (iN (regUp o m)) (i : Int) (m : Int)) r := by
  induction m with
  | zero =>
    intro hm
    refine Ev.step (fun k => ?_) hnext
    have hl : (a[i]?.getD 0 % 2 :: o.take 32).length = 33 := by
      rw [List.length_cons, List.length_take]
      omega
    have e : (iN (regUp o 0)).set (0 : Int).toNat (Int.tmod (rd (iN a) (i : Int)) 2) = iN (a[i]?.getD 0 % 2 :: o.take 32) := by
      rw [rd_iN, tmod_two, show (0 : Int).toNat = 0 from rfl, iN_set, regUp_set ho]
    have e32 : rd (iN (a[i]?.getD 0 % 2 :: o.take 32)) 32 = (((a[i]?.getD 0 % 2 :: o.take 32)[32]?.getD 0 : Nat) : Int) := rd_iN _ 32
    simp only [wharfref04_Mod.l1]
    rw [if_neg (by decide), if_pos (by omega), if_pos (by rw [iN_length]; omega), if_pos (by rw [iN_length, regUp_length ho 0 (by decide)]; decide), e, Option.bind_some, if_pos (by decide), if_pos (by rw [iN_length, regUp_length ho 0 (by decide)]; decide), e32]
    generalize (a[i]?.getD 0 % 2 :: o.take 32)[32]?.getD 0 = t
    by_cases ht : t = 1
    · rw [if_pos ht, if_pos (by omega)]
    · rw [if_neg ht, if_neg (by omega)]
  | succ m ih =>
    intro hm
    refine Ev.step (fun k => ?_) (ih (by omega))
    have hl := regUp_length ho (m + 1) hm
    have e1 : wrap64 (((m + 1 : Nat) : Int) - 1) = (m : Int) := by rw [wrap_id (by omega)]; omega
    have e2 : (regUp o (m + 1))[m]?.getD 0 = o[m]?.getD 0 := by rw [regUp_get ho (m + 1) hm m (by omega), if_pos (by omega)]
    simp only [wharfref04_Mod.l1]
    rw [if_pos (by omega), e1, if_pos (by omega), if_pos (by rw [iN_length, hl]; omega), if_pos (by omega), if_pos (by rw [iN_length, hl]; omega), rd_iN, e2, Int.toNat_natCast, iN_set, regUp_step ho m hm]
theorem ref4Mod_loop {a : List Nat} (hs : a.length ≤ 1099511627776) (n : Nat) : ∀ o : List Nat, n ≤ a.length → o.length = 33 → Bits o → o[32]?.getD 0 = 0 → wr o = wr (a.drop n) →
    ∃ q : List Nat, Ev (fun k => wharfref04_Mod.l0 k (iN a) (iN G) 32 (iN o) ((n : Int) - 1)) (iN (red q), true) ∧ wr q = wr a ∧ (∀ j, 32 ≤ j → co q j = 0) := by
  induction n with
  | zero =>
    intro o _ ho hb h32 hw
    refine ⟨o, ?_, by rw [hw, List.drop_zero], fun j hj => ?_⟩
    · have hr := ref4Reduce_pure o (by omega)
      refine Ev.step (fun k => ?_) (Ev.bind hr (f := fun _ t => some (t, true)) (Ev.now _))
      simp only [wharfref04_Mod.l0]
      rw [if_neg (by decide)]
    · rcases (show j = 32 ∨ o.length ≤ j by omega) with rfl | h
      · rw [co, h32]
      · exact co_none _ _ h
  | succ n ih =>
    intro o hn ho hb h32 hw
    obtain ⟨x, hx⟩ : ∃ x, x = a[n]?.getD 0 % 2 := ⟨_, rfl⟩
    have hx2 : x < 2 := by omega
    have hl : (x :: o.take 32).length = 33 := by rw [List.length_cons, List.length_take]; omega
    have hbits := bits_cons hx2 (bits_take hb 32)
    have hwr : wr (x :: o.take 32) = wr (a.drop n) := by
      have e : wr (o.take 32) = wr o := wr_congr _ _ (fun i => by
        rw [co, co, List.getElem?_take]
        by_cases h : i < 32
        · rw [if_pos h]
        · rw [if_neg h]
          rcases (show i = 32 ∨ o.length ≤ i by omega) with rfl | h2
          · rw [h32]; rfl
          · rw [List.getElem?_eq_none h2])
      rw [List.drop_eq_getElem_cons (show n < a.length by omega)]
      simp only [wr]
      rw [e, hw, hx, List.getElem?_eq_getElem (show n < a.length by omega), Option.getD_some, Nat.mod_mod]
    have hback : wrap64 ((n : Int) - 1) = (n : Int) - 1 := wrap_id (by omega)
    have hstart : ((n + 1 : Nat) : Int) - 1 = (n : Int) := by omega
    have fin : ∀ (q : List Nat), Ev (fun k => if (x :: o.take 32)[32]?.getD 0 = 1 then wharfref04_Mod.l2 k (iN a) (iN G) 32 (iN (x :: o.take 32)) (n : Int) 0 else wharfref04_Mod.l0 k (iN a) (iN G) 32 (iN (x :: o.take 32)) (wrap64 ((n : Int) - 1))) (iN (red q), true) →
        Ev (fun k => wharfref04_Mod.l0 k (iN a) (iN G) 32 (iN o) (((n + 1 : Nat) : Int) - 1)) (iN (red q), true) := by
      intro q hq
      rw [hx] at hq
      have h1 := ref4Mod_shift ho n (by omega) hq 32 (Nat.le_refl _)
      rw [regUp_top ho] at h1
      refine Ev.step (fun k => ?_) h1
      simp only [wharfref04_Mod.l0]
      rw [hstart, if_pos (by omega)]
      rfl
    by_cases ht : (x :: o.take 32)[32]?.getD 0 = 1
    · have h33 : G.length = 33 := by decide
      have hlen : (addTo (x :: o.take 32) G 33).length = 33 := by rw [addTo_length, hl]
      have hwa : wr (addTo (x :: o.take 32) G 33) = wr (a.drop n) := by
        have := wr_addTo (out := x :: o.take 32) (p := G) (by rw [hl, h33]; exact Nat.le_refl _)
        rw [h33] at this
        rw [this, wr_G, Nat.xor_zero, hwr]
      have h0 : (addTo (x :: o.take 32) G 33)[32]?.getD 0 = 0 := by
        rw [addTo_get _ _ _ _ (by rw [hl]; decide), if_pos (by decide), Option.getD_some, ht]
        decide
      obtain ⟨q, hq, hqw, hq32⟩ := ih _ (by omega) hlen (addTo_bits hbits bits_G 33) h0 hwa
      rw [← hback] at hq
      have h2 := ref4Mod_add (a := a) hl hbits (n : Int) hq 33 0 (Nat.zero_le _) rfl
      rw [addTo_zero] at h2
      refine ⟨q, fin q (Ev.congr (fun k => ?_) h2), hqw, hq32⟩
      rw [if_pos ht]
      rfl
    · have h0 : (x :: o.take 32)[32]?.getD 0 = 0 := by
        have := bits_get hbits 32
        omega
      obtain ⟨q, hq, hqw, hq32⟩ := ih _ (by omega) hl hbits h0 hwr
      rw [← hback] at hq
      refine ⟨q, fin q (Ev.congr (fun k => ?_) hq), hqw, hq32⟩
      rw [if_neg ht]
theorem ref4Mod_pure {a : List Nat} (hs : a.length ≤ 1099511627776) : ∃ q : List Nat, Ev (fun k => wharfref04_Mod.f k (iN a) (iN G)) (iN (red q), true) ∧ wr q = wr a ∧ (∀ j, 32 ≤ j → co q j = 0) := by
  have hG := ref4Reduce_pure G (by decide)
  rw [red_G] at hG
  obtain ⟨q, hq, hw, h32⟩ := ref4Mod_loop hs a.length (List.replicate 33 0) (Nat.le_refl _) List.length_replicate (by intro x hx; rw [List.eq_of_mem_replicate hx]; decide) (by decide) (by rw [List.drop_length]; decide +kernel)
  refine ⟨q, ?_, hw, h32⟩
  refine Ev.bind hG (f := fun k t217 => (if (wrap64 ((t217.length : Int) - 1)) < 0 then (some (([] : List Int), false)) else (if 0 ≤ (wrap64 ((wrap64 ((t217.length : Int) - 1)) + 1)) then (if (wrap64 ((wrap64 ((t217.length : Int) - 1)) + 1) : Int).toNat ≤ 281474976710656 then (wharfref04_Mod.l0 k (iN a) t217 (wrap64 ((t217.length : Int) - 1)) (List.replicate (wrap64 ((wrap64 ((t217.length : Int) - 1)) + 1) : Int).toNat 0) (wrap64 (((iN a).length : Int) - 1))) else (none)) else (none)))) (Ev.congr (fun k => ?_) hq)
  have e1 : wrap64 (((iN G).length : Int) - 1) = 32 := by decide +kernel
  have e2 : wrap64 ((32 : Int) + 1) = 33 := by decide +kernel
  rw [e1, e2, if_neg (by decide), if_pos (by decide), if_pos (by decide), iN_length, wrap_id (by omega), iN_replicate]
  rfl
end Go.Proofs.Ytfhnakebfiaccaa.P
