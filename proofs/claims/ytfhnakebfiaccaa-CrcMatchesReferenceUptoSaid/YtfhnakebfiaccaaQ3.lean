/- The definition's word and sum, the joined parts, and the law CrcMatchesReference as a statement over lists of numbers. -/
import Derived.Test.YtfhnakebfiaccaaP11
import Derived.Test.YtfhnakebfiaccaaQ2
import Derived.Test.YtfhnakebfiaccaaPureD
namespace Go.Proofs.Ytfhnakebfiaccaa.P
open Go.RowKit Go.Proofs.Ytfhnakebfiaccaa.M Go.Proofs.YtfhnakebfiaccaaW.PrintWords Go.Proofs.YtfhnakebfiaccaaW.PrintLast

/-! ### Word -/
/-- The coefficients so far, the first the highest. -/
def horn (p : List Nat) : Nat → Nat
  | 0 => 0
  | i + 1 => 2 * horn p i + co p i
theorem horn_lt (p : List Nat) : ∀ i, horn p i < 2 ^ i
  | 0 => Nat.one_pos
  | i + 1 => by
    have := horn_lt p i
    have := co_lt p i
    simp only [horn]
    rw [Nat.pow_succ]
    omega
def firstCo (p : List Nat) (i : Nat) : List Nat := (List.range i).map (co p)
theorem firstCo_succ (p : List Nat) (i : Nat) : firstCo p (i + 1) = firstCo p i ++ [co p i] := by simp [firstCo, List.range_succ]
theorem firstCo_length (p : List Nat) (i : Nat) : (firstCo p i).length = i := by simp [firstCo]
theorem wr_firstCo (p : List Nat) : ∀ i, i ≤ 32 → wr (firstCo p i) = horn p i * 2 ^ (32 - i)
  | 0, _ => by simp [firstCo, wr, horn]
  | i + 1, h => by
    have ih := wr_firstCo p i (by omega)
    have hs := (wr_snoc (firstCo p i) (co p i) (by rw [firstCo_length]; omega)).1
    rw [firstCo_succ, hs, ih, firstCo_length, show 32 - i = (31 - i) + 1 by omega, show 32 - (i + 1) = 31 - i by omega, Nat.mod_eq_of_lt (co_lt p i), Nat.pow_succ]
    simp only [horn]
    rw [Nat.add_mul, Nat.mul_comm 2 (horn p i), Nat.mul_assoc, Nat.mul_comm 2]
theorem wr_horn {p : List Nat} (h : ∀ j, 32 ≤ j → co p j = 0) : wr p = horn p 32 := by
  have h1 := wr_firstCo p 32 (Nat.le_refl _)
  rw [Nat.sub_self, Nat.pow_zero, Nat.mul_one] at h1
  rw [← h1]
  refine wr_congr _ _ (fun i => ?_)
  by_cases hi : i < 32
  · have e : (firstCo p 32)[i]? = some (co p i) := by
      rw [firstCo, List.getElem?_map, List.getElem?_range hi]
      rfl
    rw [co.eq_1 (firstCo p 32), e, Option.getD_some, Nat.mod_eq_of_lt (co_lt p i)]
  · rw [h i (by omega), co_none _ _ (by rw [firstCo_length]; omega)]
theorem ref4Word_loop {p : List Nat} (hp : ByteN p) (d : Nat) : ∀ i, i ≤ 32 → 32 - i = d → Ev (fun k => wharfref04_Word.l0 k (iN p) ((horn p i : Nat) : Int) (i : Int)) ((horn p 32 : Nat) : Int) := by
  induction d with
  | zero =>
    intro i hi hd
    obtain rfl : i = 32 := by omega
    refine Ev.step (f := fun _ => some ((horn p 32 : Nat) : Int)) (fun k => ?_) (Ev.now _)
    simp only [wharfref04_Word.l0]
    rw [if_neg (by decide)]
  | succ d ih =>
    intro i hi hd
    refine Ev.step (fun k => ?_) (ih (i + 1) (by omega) (by omega))
    have h1 := horn_lt p (i + 1)
    have h2 : 2 ^ (i + 1) ≤ 2 ^ 32 := Nat.pow_le_pow_right (by decide) (by omega)
    have h3 : horn p (i + 1) = 2 * horn p i + co p i := rfl
    have e : (((((horn p i : Nat) : Int) * 2) % 4294967296) + (((co p i : Nat) : Int) % 4294967296)) % 4294967296 = ((horn p (i + 1) : Nat) : Int) := by omega
    simp only [wharfref04_Word.l0]
    rw [if_pos (by omega), ref4At_pure hp, Option.bind_some, e, wrap_id (by omega)]
    rfl
theorem ref4Word_pure {p : List Nat} (hp : ByteN p) (h : ∀ j, 32 ≤ j → co p j = 0) : Ev (fun k => wharfref04_Word.f k (iN p)) ((wr p : Nat) : Int) := by
  rw [wr_horn h]
  refine Ev.congr (fun k => ?_) (ref4Word_loop hp 32 0 (by decide) rfl)
  unfold wharfref04_Word.f
  rfl
/-! ### Sum -/
theorem ref5Sum_tail {b : List Nat} (hs : b.length ≤ 4096) {a z : List Nat} (ha : a = List.replicate 32 0 ++ red (ofB b)) (hz : z = List.replicate (8 * b.length) 0) (d : Nat) : ∀ i, i ≤ 32 → 32 - i = d →
    Ev (fun k => wharfref05_Sum.l0 k (iN a) (iN (z ++ List.replicate i 1)) (i : Int)) ((crcF b : Nat) : Int) := by
  have hzl : z.length = 8 * b.length := by rw [hz, List.length_replicate]
  have hal : a.length ≤ 32 + 8 * b.length := by
    have := lead_le (ofB b)
    rw [ofB_length] at this
    rw [ha, List.length_append, List.length_replicate, red_length]
    omega
  induction d with
  | zero =>
    intro i hi hd
    obtain rfl : i = 32 := by omega
    have hbz : ByteN (z ++ List.replicate 32 1) := by
      intro x hx
      rcases List.mem_append.1 hx with h | h
      · rw [hz] at h
        rw [List.eq_of_mem_replicate h]
        decide
      · rw [List.eq_of_mem_replicate h]
        decide
    have hba : ByteN a := by
      intro x hx
      rw [ha] at hx
      rcases List.mem_append.1 hx with h | h
      · rw [List.eq_of_mem_replicate h]
        decide
      · exact byteN_red _ x h
    have h1 := ref4Add_pure hba hbz (by omega) (by rw [List.length_append, List.length_replicate]; omega)
    obtain ⟨s, hs_⟩ : ∃ s, s = red (addL a (z ++ List.replicate 32 1)) := ⟨_, rfl⟩
    rw [← hs_] at h1
    have hsl : s.length ≤ 1099511627776 := by
      rw [hs_, ← red_congr (co_coSum a _), red_length]
      have := lead_le (coSum a (z ++ List.replicate 32 1))
      rw [coSum_length, List.length_append, List.length_replicate] at this
      omega
    obtain ⟨q, hq, hqw, hq32⟩ := ref4Mod_pure hsl
    have h4 := ref4Word_pure (byteN_red q) (fun j hj => by rw [co_red]; exact hq32 j hj)
    rw [wr_red, hqw] at h4
    have hval : wr s = crcN 4294967295 b := by
      rw [hs_, wr_red, ← crc_def, ha, hz]
      rw [wr_add, wr_add, wr_shift, wr_shift, wr_shift, wr_red]
    rw [hval] at h4
    have hlt := crcN_lt b (show 4294967295 < 4294967296 by decide)
    refine Ev.step (f := fun k => (wharfref04_Add.f k (iN a) (iN (z ++ List.replicate 32 1))).bind fun t273 => (wharfref04_Generator.f k).bind fun t276 => (wharfref04_Mod.f k t273 t276).bind fun bt279 => (wharfref04_Word.f k bt279.1).bind fun t283 => some ((4294967295 - t283) % 4294967296)) (fun k => ?_) (Ev.bind h1 (Ev.bind ref4Gen_pure (f := fun k t276 => (wharfref04_Mod.f k (iN s) t276).bind fun bt279 => (wharfref04_Word.f k bt279.1).bind fun t283 => some ((4294967295 - t283) % 4294967296)) (Ev.bind hq (f := fun k bt279 => (wharfref04_Word.f k bt279.1).bind fun t283 => some ((4294967295 - t283) % 4294967296)) (Ev.bind h4 (f := fun _ t283 => some ((4294967295 - t283) % 4294967296)) (Ev.congr (fun _ => ?_) (Ev.now _))))))
    · simp only [wharfref05_Sum.l0]
      rw [if_neg (by decide)]
    · unfold crcF
      congr 1
      omega
  | succ d ih =>
    intro i hi hd
    refine Ev.step (fun k => ?_) (ih (i + 1) (by omega) (by omega))
    simp only [wharfref05_Sum.l0]
    rw [if_pos (by omega), if_pos (by rw [iN_length, List.length_append, List.length_replicate]; omega), wrap_id (by omega), show iN (z ++ List.replicate i 1) ++ [(1 : Int)] = iN (z ++ List.replicate i 1 ++ [1]) from iN_snoc _ 1, List.append_assoc, ← List.replicate_succ']
    rfl
theorem ref5Sum_pure {b : List Nat} (hs : b.length ≤ 4096) : Ev (fun k => wharfref05_Sum.f k (iN b)) ((crcF b : Nat) : Int) := by
  have h1 := ref4Of_pure (b := b) (by omega)
  have hl : (red (ofB b)).length ≤ 8 * b.length := by
    have := lead_le (ofB b)
    rw [ofB_length] at this
    rw [red_length]
    exact this
  have h2 := ref5Sum_tail hs (a := List.replicate 32 0 ++ red (ofB b)) (z := List.replicate (8 * b.length) 0) rfl rfl 32 0 (by decide) rfl
  refine Ev.congr (f := fun k => (wharfref04_Of.f k (iN b)).bind fun t261 => if (List.replicate 32 (0 : Int)).length + t261.length < 140737488355328 then (if 0 ≤ (wrap64 (8 * ((iN b).length : Int))) then (if (wrap64 (8 * ((iN b).length : Int)) : Int).toNat ≤ 281474976710656 then (wharfref05_Sum.l0 k (List.replicate 32 (0 : Int) ++ t261) (List.replicate (wrap64 (8 * ((iN b).length : Int)) : Int).toNat 0) 0) else (none)) else (none)) else (none)) (fun k => ?_) (Ev.bind h1 (Ev.congr (fun k => ?_) h2))
  · unfold wharfref05_Sum.f
    rw [if_pos (by decide), Option.bind_some]
  · have e8 : wrap64 (8 * ((iN b).length : Int)) = ((8 * b.length : Nat) : Int) := by
      rw [iN_length, wrap_id (by omega)]
      omega
    rw [e8, if_pos (by rw [iN_length, List.length_replicate]; omega), if_pos (by omega), if_pos (by rw [Int.toNat_natCast]; omega), Int.toNat_natCast, List.replicate_zero, List.append_nil, iN_append, iN_replicate, iN_replicate]
    rfl
/-! ### Join -/
theorem flat_take (ls : List (List Nat)) (i : Nat) (h : i < ls.length) : (ls.take (i + 1)).flatten = (ls.take i).flatten ++ ls[i]?.getD [] := by
  rw [List.take_succ_eq_append_getElem h, List.flatten_append, List.getElem?_eq_getElem h]
  simp
theorem flat_le (ls : List (List Nat)) (i : Nat) : (ls.take i).flatten.length ≤ ls.flatten.length := by
  conv => rhs; rw [← List.take_append_drop i ls, List.flatten_append, List.length_append]
  omega
theorem join_loop {ls : List (List Nat)} (hs : ls.flatten.length ≤ 1099511627776) (hn : ls.length ≤ 1099511627776) (d : Nat) : ∀ i, i ≤ ls.length → ls.length - i = d →
    Ev (fun k => wharfref01_Join.l0 k (ls.map iN) (iN (ls.take i).flatten) (i : Int)) (iN ls.flatten) := by
  induction d with
  | zero =>
    intro i hi hd
    refine Ev.step (f := fun _ => some (iN ls.flatten)) (fun k => ?_) (Ev.now _)
    simp only [wharfref01_Join.l0]
    rw [if_neg (by rw [List.length_map]; omega), List.take_of_length_le (by omega)]
  | succ d ih =>
    intro i hi hd
    refine Ev.step (fun k => ?_) (ih (i + 1) (by omega) (by omega))
    have h1 := flat_le ls (i + 1)
    have h2 := flat_take ls i (by omega)
    rw [h2, List.length_append] at h1
    simp only [wharfref01_Join.l0]
    rw [if_pos (by rw [List.length_map]; omega), if_pos (by omega), rd_L1_map, if_pos (by rw [iN_length, iN_length]; omega), wrap_id (by omega), h2, iN_append]
    rfl
theorem join_pure {ls : List (List Nat)} (hs : ls.flatten.length ≤ 1099511627776) (hn : ls.length ≤ 1099511627776) : Ev (fun k => wharfref01_Join.f k (ls.map iN)) (iN ls.flatten) := by
  refine Ev.congr (fun k => ?_) (join_loop hs hn _ 0 (Nat.zero_le _) rfl)
  unfold wharfref01_Join.f
  rfl
/-! ### the law -/
theorem matches_pure {ls : List (List Nat)} (hb : ByteL ls) (hs : ls.flatten.length ≤ 1099511627776) (hn : ls.length ≤ 1099511627776) : Ev (fun k => wharflaw05_CrcMatchesReference.f k (ls.map iN)) true := by
  by_cases h20 : ls.length > 20
  · refine Ev.congr (f := fun k => wharflaw05_CrcMatchesReference.j0 k (ls.map iN) true) (fun k => ?_) (Ev.step (f := fun _ => some true) (fun k => ?_) (Ev.now _))
    · unfold wharflaw05_CrcMatchesReference.f wharflaw05_awake.f
      rw [Option.bind_some, if_pos rfl, decide_eq_true (show ((ls.map iN).length : Int) > 20 by rw [List.length_map]; omega)]
    · simp only [wharflaw05_CrcMatchesReference.j0]
      rfl
  · refine Ev.congr (f := fun k => wharflaw05_CrcMatchesReference.j0 k (ls.map iN) false) (fun k => ?_) ?_
    · unfold wharflaw05_CrcMatchesReference.f wharflaw05_awake.f
      rw [Option.bind_some, if_pos rfl, decide_eq_false (show ¬ ((ls.map iN).length : Int) > 20 by rw [List.length_map]; omega)]
    · refine Ev.step (f := fun k => (wharfref01_Join.f k (ls.map iN)).bind fun t286 => (if (t286.length : Int) > 200 then (some true) else ((wharfref05_Sum.f k t286).bind fun t289 => ((crc_Sum.f k (ls.map iN)).bind fun t290 => (if t290 = t289 then ((crc_Slow.f k t286).bind fun t291 => (if t291 = t289 then ((wharfref05_Fast.f t286).bind fun t292 => (some (t292 == t289))) else (some false))) else (some false)))))) (fun k => ?_) (Ev.bind (join_pure hs hn) ?_)
      · simp only [wharflaw05_CrcMatchesReference.j0]
        rw [if_neg (by decide)]
      · by_cases h200 : ls.flatten.length > 200
        · refine Ev.congr (f := fun _ => some true) (fun k => ?_) (Ev.now _)
          rw [if_pos (by rw [iN_length]; omega)]
        · have hbf : ByteN ls.flatten := by
            intro x hx
            obtain ⟨l, hl, hx⟩ := List.mem_flatten.1 hx
            exact hb l hl x hx
          have h1 := ref5Sum_pure (b := ls.flatten) (by omega)
          have h2 := sum_pure hb hn
          have h3 := slow_pure hbf (by omega)
          have h4 := fast_pure hbf
          refine Ev.congr (fun k => ?_) (Ev.bind h1 (f := fun k t289 => (crc_Sum.f k (ls.map iN)).bind fun t290 => (if t290 = t289 then ((crc_Slow.f k (iN ls.flatten)).bind fun t291 => (if t291 = t289 then ((wharfref05_Fast.f (iN ls.flatten)).bind fun t292 => (some (t292 == t289))) else (some false))) else (some false))) (Ev.bind h2 (f := fun k t290 => (if t290 = ((crcF ls.flatten : Nat) : Int) then ((crc_Slow.f k (iN ls.flatten)).bind fun t291 => (if t291 = ((crcF ls.flatten : Nat) : Int) then ((wharfref05_Fast.f (iN ls.flatten)).bind fun t292 => (some (t292 == ((crcF ls.flatten : Nat) : Int)))) else (some false))) else (some false))) (Ev.congr (fun k => ?_) (Ev.bind h3 (f := fun _ t291 => (if t291 = ((crcF ls.flatten : Nat) : Int) then ((wharfref05_Fast.f (iN ls.flatten)).bind fun t292 => (some (t292 == ((crcF ls.flatten : Nat) : Int)))) else (some false))) (Ev.congr (fun k => ?_) (Ev.now _))))))
          · rw [if_neg (by rw [iN_length]; omega)]
          · rw [if_pos rfl]
          · rw [if_pos rfl, h4, Option.bind_some, beq_self_eq_true]
end Go.Proofs.Ytfhnakebfiaccaa.P
