/- The division of polynomials of the definition, its parts: plain mathematics over lists of numbers. -/
import Derived.Test.YtfhnakebfiaccaaP10
import Derived.Test.YtfhnakebfiaccaaPureB
import Derived.Test.YtfhnakebfiaccaaPureC
namespace Go.Proofs.Ytfhnakebfiaccaa.P
open Go.RowKit Go.Proofs.Ytfhnakebfiaccaa.M Go.Proofs.YtfhnakebfiaccaaW.PrintWords Go.Proofs.YtfhnakebfiaccaaW.PrintLast

theorem tmod_two (x : Nat) : Int.tmod (x : Int) 2 = ((x % 2 : Nat) : Int) := by rw [Int.tmod_eq_emod_of_nonneg (by omega)]; rfl
theorem co_cast (l : List Nat) (i : Nat) : Int.tmod (rd (iN l) (i : Int)) 2 = ((co l i : Nat) : Int) := by rw [rd_iN, tmod_two]; rfl
theorem take_snoc' (l : List Nat) (i : Nat) (x : Nat) (h : l[i]? = some x) : l.take i ++ [x] = l.take (i + 1) := by
  obtain ⟨hi, e⟩ := List.getElem?_eq_some_iff.1 h
  rw [List.take_succ_eq_append_getElem hi, e]
theorem iN_snoc (l : List Nat) (x : Nat) : iN l ++ [(x : Int)] = iN (l ++ [x]) := by rw [iN_append]; rfl
/-! ### Reduce -/
theorem ref4Reduce_fill (l : List Nat) (hs : l.length ≤ 1099511627776) (d : Nat) : ∀ i, i ≤ lead l → lead l - i = d → Ev (fun k => wharfref04_Reduce.l1 k (iN l) (lead l : Int) (iN ((red l).take i)) (i : Int)) (iN (red l)) := by
  have hle := lead_le l
  induction d with
  | zero =>
    intro i hi hd
    obtain rfl : i = lead l := by omega
    refine Ev.step (f := fun _ => some (iN (red l))) (fun k => ?_) (Ev.now _)
    simp only [wharfref04_Reduce.l1]
    rw [if_neg (by omega), List.take_of_length_le (by rw [red_length]; exact Nat.le_refl _)]
  | succ d ih =>
    intro i hi hd
    refine Ev.step (fun k => ?_) (ih (i + 1) (by omega) (by omega))
    simp only [wharfref04_Reduce.l1]
    rw [if_pos (by omega), if_pos (by omega), if_pos (by rw [iN_length]; omega), if_pos (by rw [iN_length, List.length_take, red_length]; omega), co_cast, iN_snoc, take_snoc' _ _ _ (red_get l i (by omega)), wrap_id (by omega)]
    rfl
theorem ref4Reduce_down (l : List Nat) (hs : l.length ≤ 1099511627776) (d : Nat) : ∀ m, lead l ≤ m → m ≤ l.length → m - lead l = d → Ev (fun k => wharfref04_Reduce.l0 k (iN l) (m : Int)) (iN (red l)) := by
  have hfill := ref4Reduce_fill l hs (lead l) 0 (Nat.zero_le _) (by omega)
  have hj : Ev (fun k => wharfref04_Reduce.j1 k (iN l) ((lead l : Nat) : Int)) (iN (red l)) := Ev.step (fun k => by simp only [wharfref04_Reduce.j1]; rfl) hfill
  induction d with
  | zero =>
    intro m hm hml hd
    obtain rfl : m = lead l := by omega
    refine Ev.step (fun k => ?_) hj
    simp only [wharfref04_Reduce.l0]
    by_cases h0 : 0 < lead l
    · have e : wrap64 ((lead l : Int) - 1) = ((lead l - 1 : Nat) : Int) := by rw [wrap_id (by omega)]; omega
      rw [if_pos (by omega), e, if_pos (by omega), if_pos (by rw [iN_length]; omega), co_cast, lead_odd l h0, if_neg (by decide)]
    · rw [if_neg (by omega)]
  | succ d ih =>
    intro m hm hml hd
    refine Ev.step (fun k => ?_) (ih (m - 1) (by omega) (by omega) (by omega))
    simp only [wharfref04_Reduce.l0]
    have e : wrap64 ((m : Int) - 1) = ((m - 1 : Nat) : Int) := by rw [wrap_id (by omega)]; omega
    rw [if_pos (by omega), e, if_pos (by omega), if_pos (by rw [iN_length]; omega), co_cast, lead_even l (m - 1) (by omega), if_pos (by decide)]
theorem ref4Reduce_pure (l : List Nat) (hs : l.length ≤ 1099511627776) : Ev (fun k => wharfref04_Reduce.f k (iN l)) (iN (red l)) := by
  refine Ev.congr (fun k => ?_) (ref4Reduce_down l hs _ l.length (lead_le l) (Nat.le_refl _) rfl)
  unfold wharfref04_Reduce.f
  rw [iN_length]
/-! ### At -/
theorem ref4At_pure {l : List Nat} (hl : ByteN l) (i : Nat) : wharfref04_At.f (iN l) (i : Int) = some ((co l i : Nat) : Int) := by
  unfold wharfref04_At.f
  rw [if_neg (by omega)]
  by_cases h : i < l.length
  · have := byteN_get hl i
    rw [if_neg (by rw [iN_length]; omega), if_pos (by omega), if_pos (by rw [iN_length]; omega), wrap_id (by rw [rd_iN]; omega), co_cast]
  · rw [if_pos (by rw [iN_length]; omega), co, List.getElem?_eq_none (by omega)]
    rfl
/-! ### Add -/
def coSum (a b : List Nat) : List Nat := (List.range (max a.length b.length)).map (fun i => (co a i + co b i) % 2)
theorem coSum_length (a b : List Nat) : (coSum a b).length = max a.length b.length := by simp [coSum]
theorem coSum_get (a b : List Nat) (i : Nat) (h : i < max a.length b.length) : (coSum a b)[i]? = some ((co a i + co b i) % 2) := by
  rw [coSum, List.getElem?_map, List.getElem?_range h]
  rfl
theorem co_none (l : List Nat) (i : Nat) (h : l.length ≤ i) : co l i = 0 := by rw [co, List.getElem?_eq_none h]; rfl
theorem co_coSum (a b : List Nat) (i : Nat) : co (coSum a b) i = co (addL a b) i := by
  rw [co_add]
  by_cases h : i < max a.length b.length
  · rw [co, coSum_get a b i h, Option.getD_some]
    omega
  · rw [co_none _ _ (by rw [coSum_length]; omega), co_none a i (by omega), co_none b i (by omega)]
theorem ref4Add_loop {a b : List Nat} (ha : ByteN a) (hb : ByteN b) (hsa : a.length ≤ 1099511627776) (hsb : b.length ≤ 1099511627776) (d : Nat) : ∀ i, i ≤ max a.length b.length → max a.length b.length - i = d →
    Ev (fun k => wharfref04_Add.l0 k (iN a) (iN b) (iN ((coSum a b).take i)) (i : Int)) (iN (red (addL a b))) := by
  have hmx : mx (((iN a).length : Nat) : Int) (((iN b).length : Nat) : Int) = ((max a.length b.length : Nat) : Int) := by
    rw [iN_length, iN_length]
    unfold mx
    split <;> omega
  induction d with
  | zero =>
    intro i hi hd
    have hr := ref4Reduce_pure (coSum a b) (by rw [coSum_length]; omega)
    rw [red_congr (co_coSum a b)] at hr
    refine Ev.step (fun k => ?_) (Ev.bind hr (f := fun _ t => some t) (Ev.now _))
    simp only [wharfref04_Add.l0]
    rw [hmx, if_neg (by omega), List.take_of_length_le (by rw [coSum_length]; omega)]
  | succ d ih =>
    intro i hi hd
    refine Ev.step (fun k => ?_) (ih (i + 1) (by omega) (by omega))
    have c1 := co_lt a i
    have c2 := co_lt b i
    have e : Int.tmod (wrap64 (((co a i : Nat) : Int) + ((co b i : Nat) : Int))) 2 % 256 = (((co a i + co b i) % 2 : Nat) : Int) := by
      rw [wrap_id (by omega), Int.tmod_eq_emod_of_nonneg (by omega)]
      omega
    simp only [wharfref04_Add.l0]
    rw [hmx, if_pos (by omega), ref4At_pure ha, ref4At_pure hb, Option.bind_some, Option.bind_some, if_pos (by rw [iN_length, List.length_take, coSum_length]; omega), e, iN_snoc, take_snoc' _ _ _ (coSum_get a b i (by omega)), wrap_id (by omega)]
    rfl
theorem ref4Add_pure {a b : List Nat} (ha : ByteN a) (hb : ByteN b) (hsa : a.length ≤ 1099511627776) (hsb : b.length ≤ 1099511627776) : Ev (fun k => wharfref04_Add.f k (iN a) (iN b)) (iN (red (addL a b))) := by
  refine Ev.congr (fun k => ?_) (ref4Add_loop ha hb hsa hsb _ 0 (Nat.zero_le _) rfl)
  unfold wharfref04_Add.f
  rfl
/-! ### Of -/
theorem u64_small {x : Nat} (h : x < 8) : IntKind.u64.wrap (x : Int) = (x : Int) := by
  simp [IntKind.wrap, IntKind.bits, IntKind.signed]
  omega
theorem ref4Of_end {b : List Nat} (hs : b.length ≤ 131072) (p : Nat) (hp : 8 * b.length ≤ p) : Ev (fun k => wharfref04_Of.l0 k (iN b) (iN ((ofB b).take p)) (-1)) (iN (red (ofB b))) := by
  have hl := ofB_length b
  have hr := ref4Reduce_pure (ofB b) (by omega)
  refine Ev.step (fun k => ?_) (Ev.bind hr (f := fun _ t => some t) (Ev.now _))
  simp only [wharfref04_Of.l0]
  rw [if_neg (by decide), List.take_of_length_le (by omega)]
theorem ref4Of_loop {b : List Nat} (hs : b.length ≤ 131072) (d : Nat) : ∀ p j, 8 * b.length = p + (j + 1) → j = d →
    Ev (fun k => wharfref04_Of.l1 k (iN b) (iN ((ofB b).take p)) ((j / 8 : Nat) : Int) ((j % 8 : Nat) : Int)) (iN (red (ofB b))) := by
  have step : ∀ p j, 8 * b.length = p + (j + 1) → ∀ k, wharfref04_Of.l1 (k + 1) (iN b) (iN ((ofB b).take p)) ((j / 8 : Nat) : Int) ((j % 8 : Nat) : Int) = wharfref04_Of.l1 k (iN b) (iN ((ofB b).take (p + 1))) ((j / 8 : Nat) : Int) (((j % 8 : Nat) : Int) - 1) := by
    intro p j hp k
    have hg := ofB_get b p (by omega)
    rw [show 8 * b.length - 1 - p = j by omega] at hg
    have e : Int.tmod (shr .u8 (rd (iN b) ((j / 8 : Nat) : Int)) ((j % 8 : Nat) : Int)) 2 = ((bitAt b j : Nat) : Int) := by
      rw [rd_iN, shr8 _ _ (by omega), tmod_two]
      rfl
    simp only [wharfref04_Of.l1]
    rw [if_pos (by omega), if_pos (by omega), if_pos (by rw [iN_length]; omega), u64_small (by omega), if_pos (by omega), if_pos (by rw [iN_length, List.length_take, ofB_length]; omega), e, iN_snoc, take_snoc' _ _ _ hg, wrap_id (x := ((j % 8 : Nat) : Int) - 1) (by omega)]
  induction d with
  | zero =>
    intro p j hp hj
    subst hj
    refine Ev.step (step p 0 hp) (Ev.step (fun k => ?_) (ref4Of_end hs (p + 1) (by omega)))
    simp only [wharfref04_Of.l1]
    rw [if_neg (by decide), show wrap64 (((0 / 8 : Nat) : Int) - 1) = -1 by decide +kernel]
  | succ d ih =>
    intro p j hp hj
    have hn := ih (p + 1) (j - 1) (by omega) (by omega)
    by_cases h8 : j % 8 = 0
    · rw [show (j - 1) % 8 = 7 by omega] at hn
      refine Ev.step (step p j hp) (Ev.step (f := fun k => wharfref04_Of.l0 k (iN b) (iN ((ofB b).take (p + 1))) (((j - 1) / 8 : Nat) : Int)) (fun k => ?_) (Ev.step (fun k => ?_) hn))
      · simp only [wharfref04_Of.l1]
        rw [if_neg (by omega), wrap_id (by omega), show ((j / 8 : Nat) : Int) - 1 = (((j - 1) / 8 : Nat) : Int) by omega]
      · simp only [wharfref04_Of.l0]
        rw [if_pos (by omega)]
        rfl
    · refine Ev.step (fun k => ?_) hn
      rw [step p j hp, show (j - 1) / 8 = j / 8 by omega, show (((j - 1) % 8 : Nat) : Int) = ((j % 8 : Nat) : Int) - 1 by omega]
theorem ref4Of_pure {b : List Nat} (hs : b.length ≤ 131072) : Ev (fun k => wharfref04_Of.f k (iN b)) (iN (red (ofB b))) := by
  by_cases h0 : b.length = 0
  · refine Ev.congr (fun k => ?_) (ref4Of_end hs 0 (by omega))
    unfold wharfref04_Of.f
    rw [iN_length, h0, show wrap64 (((0 : Nat) : Int) - 1) = -1 by decide +kernel]
    rfl
  · have h := ref4Of_loop hs (8 * b.length - 1) 0 (8 * b.length - 1) (by omega) rfl
    rw [show (8 * b.length - 1) % 8 = 7 by omega, show (8 * b.length - 1) / 8 = b.length - 1 by omega] at h
    refine Ev.congr (f := fun k => wharfref04_Of.l0 k (iN b) (iN ((ofB b).take 0)) ((b.length - 1 : Nat) : Int)) (fun k => ?_) (Ev.step (fun k => ?_) h)
    · unfold wharfref04_Of.f
      rw [iN_length, wrap_id (by omega), show ((b.length : Nat) : Int) - 1 = ((b.length - 1 : Nat) : Int) by omega]
      rfl
    · simp only [wharfref04_Of.l0]
      rw [if_pos (by omega)]
      rfl
/-! ### Generator -/
theorem ref4Gen_at : wharfref04_Generator.f 80 = some (iN G) := by decide +kernel
theorem ref4Gen_pure : Ev (fun k => wharfref04_Generator.f k) (iN G) := Ev.of (fun k => wharfref04_Generator.mono k) ref4Gen_at
end Go.Proofs.Ytfhnakebfiaccaa.P
