/- The law CrcBursts as a statement over numbers and lists: for every seed, length, place and change it answers true. -/
import Derived.Test.YtfhnakebfiaccaaP15
import Derived.Test.YtfhnakebfiaccaaFlip
namespace Go.Proofs.Ytfhnakebfiaccaa.Pure
open Go.RowKit Go.Proofs.Ytfhnakebfiaccaa.P Go.Proofs.Ytfhnakebfiaccaa.M Go.Proofs.YtfhnakebfiaccaaW.PrintWords Go.Proofs.YtfhnakebfiaccaaW.PrintLast

theorem int_wf {k : IntKind} {x : Int} (hs : k.signed = false) (h : (Lit.int k x).wf = true) : ∃ n : Nat, x = (n : Int) ∧ n < 2 ^ k.bits := by
  simp [Lit.wf, IntKind.min, IntKind.max, hs] at h
  refine ⟨x.toNat, by omega, ?_⟩
  have := h.2
  cases k <;> simp [IntKind.bits, IntKind.signed] at * <;> omega
theorem and1 {x : Nat} (h : x < 4294967296) : Go.bits .and .u32 (x : Int) 1 = ((x % 2 : Nat) : Int) := by
  rw [show (1 : Int) = ((1 : Nat) : Int) from rfl, u32_and_nat x 1 h (by decide), Nat.and_one_is_mod]
theorem burst_loop {b : List Nat} {n start stop change : Nat} {L : Nat → Nat} (hb : ByteN b) (hbl : b.length = n) (hn : n ≤ 1000000) (hn12 : 12 ≤ n) (hse : sealedN b = true) (hto : stop ≤ 8 * n) (hst : start ≤ 8 * n)
    (LX : ∀ x y, L (x ^^^ y) = L x ^^^ L y) (LB : ∀ j, j < 32 → start + j < stop → L (2 ^ j) = errE n (start + j)) (LZ : ∀ x, x < 4294967296 → (L x = 0 ↔ x = 0)) (hch : change < 4294967296) (d : Nat) :
    ∀ (j : Nat) (c : List Nat), 32 - j = d → j ≤ 32 → ByteN c → c.length = n → synd c = L (change % 2 ^ j) →
      Ev (fun k => wharflaw05_CrcBursts.l0 k (change : Int) (iN b) (stop : Int) (start : Int) (iN c) (decide (change % 2 ^ j = 0)) (j : Int)) true := by
  have hstop : ∀ (j : Nat) (c : List Nat), ByteN c → c.length = n → synd c = L (change % 2 ^ j) → Ev (fun k => wharflaw05_CrcBursts.j2 k (change : Int) (iN b) (stop : Int) (start : Int) (iN c) (decide (change % 2 ^ j = 0)) (j : Int) false) true := by
    intro j c hc hcl hsy
    have h1 := sealed_pure hb (by rw [hbl]; omega)
    rw [hse] at h1
    have h2 := sealed_pure hc (by rw [hcl]; omega)
    rw [sealed_iff hc (by rw [hcl]; exact hn12), hsy] at h2
    refine Ev.step (f := fun k => (crc_Sealed.f k (iN b)).bind fun t376 => if t376 = true then ((crc_Sealed.f k (iN c)).bind fun t377 => some (t377 == decide (change % 2 ^ j = 0))) else some false) (fun k => ?_) (Ev.bind h1 ?_)
    · simp only [wharflaw05_CrcBursts.j2]
      rw [if_neg (by decide)]
    · refine Ev.congr (f := fun k => (crc_Sealed.f k (iN c)).bind fun t377 => some (t377 == decide (change % 2 ^ j = 0))) (fun k => by rw [if_pos rfl]) (Ev.bind h2 (Ev.congr (f := fun _ => some true) (fun k => ?_) (Ev.now _)))
      have hz := LZ (change % 2 ^ j) (Nat.lt_of_le_of_lt (Nat.mod_le _ _) hch)
      rw [show decide (L (change % 2 ^ j) = 0) = decide (change % 2 ^ j = 0) from decide_eq_decide.2 hz, beq_self_eq_true]
  induction d with
  | zero =>
    intro j c hd hj hc hcl hsy
    refine Ev.step (fun k => ?_) (hstop j c hc hcl hsy)
    simp only [wharflaw05_CrcBursts.l0]
    rw [if_neg (by omega)]
  | succ d ih =>
    intro j c hd hj hc hcl hsy
    by_cases hend : start + j < stop
    · have hw : IntKind.u64.wrap ((j : Nat) : Int) = (j : Int) := by
        simp [IntKind.wrap, IntKind.bits, IntKind.signed]
        omega
      have hsh : shr .u32 (change : Int) (j : Int) = ((change / 2 ^ j : Nat) : Int) := shr32 change j (by omega)
      have hs1 := mod_pow_succ change j
      by_cases hbit : change / 2 ^ j % 2 = 1
      · have hne : change % 2 ^ (j + 1) ≠ 0 := by
          intro h0
          have h3 : change / 2 ^ j % 2 = change % 2 ^ (j + 1) / 2 ^ j := by rw [Nat.pow_succ, Nat.mod_mul_right_div_self]
          rw [h0, Nat.zero_div] at h3
          omega
        have hfl := flip_pure hc (by omega) (by omega) (start + j)
        rw [hcl, Nat.mod_eq_of_lt (by omega)] at hfl
        refine Ev.step (f := fun k => wharflaw05_CrcBursts.j2 k (change : Int) (iN b) (stop : Int) (start : Int) (iN c) (decide (change % 2 ^ j = 0)) (j : Int) true) (fun k => ?_) (Ev.step (fun k => ?_) (ih (j + 1) (flipN c (start + j)) (by omega) (by omega) (flipN_bytes hc _) (by rw [flipN_length]; exact hcl) ?_))
        · simp only [wharflaw05_CrcBursts.l0]
          rw [if_pos (by omega), wrap_id (x := (start : Int) + (j : Int)) (by omega), decide_eq_true (show (start : Int) + (j : Int) < (stop : Int) by omega)]
        · simp only [wharflaw05_CrcBursts.j2]
          rw [if_pos trivial, hw, if_pos (by omega), hsh, and1 (Nat.lt_of_le_of_lt (Nat.div_le_self _ _) hch), hbit, if_pos (show ((1 : Nat) : Int) = 1 from rfl), wrap_id (x := (start : Int) + (j : Int)) (by omega), show (start : Int) + (j : Int) = ((start + j : Nat) : Int) from rfl, hfl, Option.bind_some, wrap_id (by omega), decide_eq_false hne]
          rfl
        · rw [synd_flip hc (by omega) _ (by omega), hsy, hcl, ← LB j (by omega) hend, hs1, hbit, Nat.mul_one, LX]
      · have hb0 : change / 2 ^ j % 2 = 0 := by omega
        rw [hb0, Nat.mul_zero, Nat.xor_zero] at hs1
        have hg := ih (j + 1) c (by omega) (by omega) hc hcl (by rw [hs1]; exact hsy)
        rw [hs1] at hg
        refine Ev.step (f := fun k => wharflaw05_CrcBursts.j2 k (change : Int) (iN b) (stop : Int) (start : Int) (iN c) (decide (change % 2 ^ j = 0)) (j : Int) true) (fun k => ?_) (Ev.step (fun k => ?_) hg)
        · simp only [wharflaw05_CrcBursts.l0]
          rw [if_pos (by omega), wrap_id (x := (start : Int) + (j : Int)) (by omega), decide_eq_true (show (start : Int) + (j : Int) < (stop : Int) by omega)]
        · simp only [wharflaw05_CrcBursts.j2]
          rw [if_pos trivial, hw, if_pos (by omega), hsh, and1 (Nat.lt_of_le_of_lt (Nat.div_le_self _ _) hch), hb0, if_neg (by decide), wrap_id (by omega)]
          rfl
    · refine Ev.step (fun k => ?_) (hstop j c hc hcl hsy)
      simp only [wharflaw05_CrcBursts.l0]
      rw [if_pos (by omega), wrap_id (x := (start : Int) + (j : Int)) (by omega), decide_eq_false (show ¬ (start : Int) + (j : Int) < (stop : Int) by omega)]
/-- The law's last part: from a place on, up to a place, bits are inverted. -/
def burstTail (k : Nat) (x2 x3 lo hi : Int) (t : List Int) : Option Bool :=
  if hi = lo then (crc_Sealed.f k t).bind fun t366 => some t366
  else if wrap64 (hi - lo) = 0 then none
  else (some ([] : List Int)).bind fun y367 => if y367.length + t.length < 140737488355328 then wharflaw05_CrcBursts.l0 k x3 t hi (wrap64 (lo + Int.tmod (wrap64 x2) (wrap64 (hi - lo)))) (y367 ++ t) true 0 else none
theorem tail_pure {b : List Nat} {n lo hi at_ change : Nat} (hb : ByteN b) (hbl : b.length = n) (hn : n ≤ 1000000) (hn12 : 12 ≤ n) (hse : sealedN b = true) (hlo : lo ≤ hi) (hhi : hi ≤ 8 * n)
    (hpart : (lo = 64 ∧ hi = 96) ∨ hi ≤ 64 ∨ 96 ≤ lo) (hat : at_ < 4294967296) (hch : change < 4294967296) :
    Ev (fun k => burstTail k (at_ : Int) (change : Int) (lo : Int) (hi : Int) (iN b)) true := by
  by_cases he : hi = lo
  · have h1 := sealed_pure hb (by rw [hbl]; omega)
    rw [hse] at h1
    refine Ev.congr (f := fun k => (crc_Sealed.f k (iN b)).bind fun t366 => some t366) (fun k => ?_) (Ev.bind h1 (f := fun _ t => some t) (Ev.now _))
    unfold burstTail
    rw [if_pos (by omega)]
  · have hq : at_ % (hi - lo) < hi - lo := Nat.mod_lt _ (by omega)
    have hstart : wrap64 ((lo : Int) + Int.tmod (wrap64 (at_ : Int)) (wrap64 ((hi : Int) - (lo : Int)))) = ((lo + at_ % (hi - lo) : Nat) : Int) := by
      rw [wrap_id (x := (at_ : Int)) (by omega), wrap_id (x := (hi : Int) - (lo : Int)) (by omega), Int.tmod_eq_emod_of_nonneg (by omega), show (hi : Int) - (lo : Int) = ((hi - lo : Nat) : Int) by omega, ← Int.natCast_emod, wrap_id (by omega)]
      rfl
    refine Ev.congr (f := fun k => wharflaw05_CrcBursts.l0 k (change : Int) (iN b) (hi : Int) ((lo + at_ % (hi - lo) : Nat) : Int) (iN b) true ((0 : Nat) : Int)) (fun k => ?_) ?_
    · unfold burstTail
      rw [if_neg (by omega), if_neg (by rw [wrap_id (by omega)]; omega), Option.bind_some, if_pos (by rw [iN_length, List.length_nil]; omega), hstart, List.nil_append]
      rfl
    · generalize hs : lo + at_ % (hi - lo) = start
      have hsy : synd b = 0 := by
        have := sealed_iff hb (by rw [hbl]; exact hn12)
        rw [hse] at this
        exact of_decide_eq_true this.symm
      have key : ∀ L : Nat → Nat, L 0 = 0 → (∀ x y, L (x ^^^ y) = L x ^^^ L y) → (∀ j, j < 32 → start + j < hi → L (2 ^ j) = errE n (start + j)) → (∀ x, x < 4294967296 → (L x = 0 ↔ x = 0)) →
          Ev (fun k => wharflaw05_CrcBursts.l0 k (change : Int) (iN b) (hi : Int) ((start : Nat) : Int) (iN b) true ((0 : Nat) : Int)) true := by
        intro L L0 LX LB LZ
        have e0 : change % 2 ^ 0 = 0 := by rw [Nat.pow_zero, Nat.mod_one]
        have := burst_loop hb hbl hn hn12 hse hhi (by omega) LX LB LZ hch 32 0 b rfl (by decide) hb hbl (by rw [e0, L0]; exact hsy)
        rw [e0] at this
        exact this
      rcases hpart with ⟨rfl, rfl⟩ | hp | hp
      · refine key (fun x => 2 ^ (start - 64) * x) rfl (fun x y => xor_mul _ x y) (fun j hj hjs => ?_) (fun x hx => ?_)
        · unfold errE
          rw [if_pos (by omega), ← Nat.pow_add]
          congr 1
          omega
        · have : 2 ^ (start - 64) ≠ 0 := Nat.pos_iff_ne_zero.1 (Nat.two_pow_pos _)
          show 2 ^ (start - 64) * x = 0 ↔ x = 0
          rw [Nat.mul_eq_zero]
          exact ⟨fun h => h.resolve_left this, Or.inr⟩
      · refine key (fun x => ticks (8 * n - start) x) (ticks_zero _) (fun x y => ticks_xor _ x y) (fun j hj hjs => ?_) (fun x hx => ticks_eq_zero hx)
        unfold errE
        rw [if_neg (by omega)]
        show ticks (8 * n - start) (2 ^ j) = _
        rw [ticks_bit (by omega)]
        congr 1
        omega
      · refine key (fun x => ticks (8 * n - start) x) (ticks_zero _) (fun x y => ticks_xor _ x y) (fun j hj hjs => ?_) (fun x hx => ticks_eq_zero hx)
        unfold errE
        rw [if_neg (by omega)]
        show ticks (8 * n - start) (2 ^ j) = _
        rw [ticks_bit (by omega)]
        congr 1
        omega
theorem CrcBursts : wharflaw05_CrcBursts.Pure := by
  intro a0 a1 a2 a3 a4 w0 w1 w2 w3 w4
  obtain ⟨n, rfl, hn⟩ := int_wf (k := .u16) rfl w1
  obtain ⟨at_, rfl, hat⟩ := int_wf (k := .u32) rfl w2
  obtain ⟨change, rfl, hch⟩ := int_wf (k := .u32) rfl w3
  obtain ⟨part, rfl, hpt⟩ := int_wf (k := .u8) rfl w4
  simp only [IntKind.bits, Nat.reducePow] at hn hat hch hpt
  refine Ev.rounds ?_
  by_cases h0 : change = 0
  · subst h0
    refine Ev.congr (f := fun k => wharflaw05_CrcBursts.j0 k a0 (n : Int) (at_ : Int) ((0 : Nat) : Int) (part : Int) true) (fun k => ?_) (Ev.step (f := fun _ => some true) (fun k => ?_) (Ev.now _))
    · unfold wharflaw05_CrcBursts.f wharflaw05_awake.f
      rw [Option.bind_some, if_pos rfl]
      rfl
    · simp only [wharflaw05_CrcBursts.j0]
      rfl
  · refine Ev.congr (f := fun k => wharflaw05_CrcBursts.j0 k a0 (n : Int) (at_ : Int) (change : Int) (part : Int) false) (fun k => ?_) ?_
    · unfold wharflaw05_CrcBursts.f wharflaw05_awake.f
      rw [Option.bind_some, if_pos rfl, show (((change : Int)) == 0) = false from beq_eq_false_iff_ne.2 (by omega)]
    · have en : wrap64 (12 + Int.tmod (wrap64 (n : Int)) 3000) = ((12 + n % 3000 : Nat) : Int) := by
        rw [wrap_id (x := (n : Int)) (by omega), Int.tmod_eq_emod_of_nonneg (by omega), wrap_id (by omega)]
        rfl
      have en8 : wrap64 (8 * ((12 + n % 3000 : Nat) : Int)) = ((8 * (12 + n % 3000) : Nat) : Int) := by
        rw [wrap_id (by omega)]
        rfl
      have ep : Int.tmod (wrap64 (part : Int)) 3 = ((part % 3 : Nat) : Int) := by
        rw [wrap_id (by omega), Int.tmod_eq_emod_of_nonneg (by omega)]
        rfl
      obtain ⟨b, hb, hbl, hsp⟩ := spread_pure (12 + n % 3000) (by omega) a0
      have hrs := refSeal_pure hb (by omega) (by omega)
      have hsl := sealN_length b
      have main : ∀ lo hi : Nat, lo ≤ hi → hi ≤ 8 * (12 + n % 3000) → ((lo = 64 ∧ hi = 96) ∨ hi ≤ 64 ∨ 96 ≤ lo) →
          (∀ k, wharflaw05_CrcBursts.j0 (k + 1) a0 (n : Int) (at_ : Int) (change : Int) (part : Int) false = (wharfref05_Spread.f k a0 ((12 + n % 3000 : Nat) : Int)).bind fun t352 => (wharfref05_Seal.f k t352).bind fun t355 => burstTail k (at_ : Int) (change : Int) (lo : Int) (hi : Int) t355) →
          Ev (fun k => wharflaw05_CrcBursts.j0 k a0 (n : Int) (at_ : Int) (change : Int) (part : Int) false) true := by
        intro lo hi hlo hhi hp hk
        have ht := tail_pure (byteN_sealN hb) (n := 12 + n % 3000) (by rw [hsl, hbl]) (by omega) (by omega) (sealed_sealN (by omega)) hlo hhi hp hat hch
        exact Ev.step hk (Ev.bind hsp (f := fun k t352 => (wharfref05_Seal.f k t352).bind fun t355 => burstTail k (at_ : Int) (change : Int) (lo : Int) (hi : Int) t355) (Ev.bind hrs (f := fun k t355 => burstTail k (at_ : Int) (change : Int) (lo : Int) (hi : Int) t355) ht))
      have hq : part % 3 = 0 ∨ part % 3 = 1 ∨ part % 3 = 2 := by omega
      rcases hq with hq | hq | hq
      · refine main 0 64 (by omega) (by omega) (by omega) (fun k => ?_)
        simp only [wharflaw05_CrcBursts.j0]
        rw [if_neg (by decide), ep, en, en8, hq]
        rfl
      · refine main 64 96 (by omega) (by omega) (by omega) (fun k => ?_)
        simp only [wharflaw05_CrcBursts.j0]
        rw [if_neg (by decide), ep, en, en8, hq]
        rfl
      · refine main 96 (8 * (12 + n % 3000)) (by omega) (by omega) (by omega) (fun k => ?_)
        simp only [wharflaw05_CrcBursts.j0]
        rw [if_neg (by decide), ep, en, en8, hq]
        rfl
end Go.Proofs.Ytfhnakebfiaccaa.Pure
