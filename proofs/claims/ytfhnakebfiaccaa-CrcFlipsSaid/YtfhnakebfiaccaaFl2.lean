/- The law CrcFlips: for every seed, length, places and count it answers true. -/
import Derived.Test.YtfhnakebfiaccaaFl1
import Derived.Test.YtfhnakebfiaccaaTwo
namespace Go.Proofs.Ytfhnakebfiaccaa.P
open Go.RowKit Go.Proofs.Ytfhnakebfiaccaa.M Go.Proofs.YtfhnakebfiaccaaW.PrintWords Go.Proofs.YtfhnakebfiaccaaW.PrintLast

theorem flips_law (a0 : Int) (n ct : Nat) (M : Nat → Nat) (w : World) (hct : ct < 256) (hn : n < 65536) (hM : ∀ i, M i < 4294967296) :
    Calls Try.prog 5 #[.int .u64 a0, .int .u16 (n : Int), .agg #[.int .u32 ((M 0 : Nat) : Int), .int .u32 ((M 1 : Nat) : Int), .int .u32 ((M 2 : Nat) : Int)], .int .u8 (ct : Int)] w fun e w' => e = .returned (.bool true) ∧ Below w.heap.size w w' := by
  have en : wrap64 (12 + Int.tmod (wrap64 (n : Int)) 3000) = ((12 + n % 3000 : Nat) : Int) := by
    rw [wrap_id (x := (n : Int)) (by omega), Int.tmod_eq_emod_of_nonneg (by omega), wrap_id (by omega)]
    rfl
  have hK : 12 + n % 3000 ≤ 3011 := by omega
  have hK12 : 12 ≤ 12 + n % 3000 := by omega
  generalize 12 + n % 3000 = K at en hK hK12
  have en8 : wrap64 (8 * (K : Int)) = ((8 * K : Nat) : Int) := by
    rw [wrap_id (by omega)]
    rfl
  have hMw : ∀ i, wrap64 ((M i : Nat) : Int) = ((M i : Nat) : Int) := fun i => wrap_id (by have := hM i; omega)
  obtain ⟨b, hb, hbl, hsp⟩ := spread_pure K (by omega) a0
  obtain ⟨k1, h1⟩ := hsp.rounds
  obtain ⟨k2, h2⟩ := (refSeal_pure hb (by omega) (by omega)).rounds
  have hsb := byteN_sealN hb
  have hsl : (sealN b).length = K := by rw [sealN_length, hbl]
  have hs0 := sealed_pure hsb (by omega)
  rw [sealed_sealN (by omega)] at hs0
  obtain ⟨k3, h3⟩ := hs0.rounds
  have hsy : synd (sealN b) = 0 := synd_sealN hb (by omega)
  generalize sealN b = s at h2 hsb hsl h3 hs0 hsy
  obtain ⟨Q, hQe⟩ : ∃ Q : Nat → Nat, ∀ i, Q i = M i % (8 * K) := ⟨fun i => M i % (8 * K), fun _ => rfl⟩
  have hQ : ∀ i, Q i < 8 * K := fun i => by rw [hQe]; exact Nat.mod_lt _ (by omega)
  obtain ⟨c, hc0, hcs⟩ : ∃ c : Nat → List Nat, c 0 = s ∧ ∀ i, c (i + 1) = flipN (c i) (Q i) := ⟨fun i => Nat.rec s (fun i l => flipN l (Q i)) i, rfl, fun _ => rfl⟩
  have hcb : ∀ i, ByteN (c i) ∧ (c i).length = K := by
    intro i
    induction i with
    | zero => rw [hc0]; exact ⟨hsb, hsl⟩
    | succ i ih => rw [hcs]; exact ⟨flipN_bytes ih.1 _, by rw [flipN_length]; exact ih.2⟩
  have hcy : ∀ i, synd (c (i + 1)) = synd (c i) ^^^ errE K (Q i) := by
    intro i
    rw [hcs, synd_flip (hcb i).1 (by rw [(hcb i).2]; exact hK12) _ (by rw [(hcb i).2]; exact hQ i), (hcb i).2]
  refine flips_walk a0 n ct (fun i => ((M i : Nat) : Int)) (fun i => ((Q i : Nat) : Int)) (fun i => iN (c i)) (iN b) (iN s) k1 k2 k3 w hct (by rw [en]; exact h1) h2 h3 (by rw [iN_length]; omega) (by show iN (c 0) = _; rw [hc0]) ?_ (by rw [en, en8]; omega) ?_ ?_
  · intro i _
    have := flip_pure (hcb i).1 (by rw [(hcb i).2]; omega) (by rw [(hcb i).2]; omega) (M i)
    rw [(hcb i).2] at this
    show wharflaw05_flip.f (iN (c i)) (wrap64 ((M i : Nat) : Int)) = some (iN (c (i + 1)))
    rw [hMw, hcs, hQe]
    exact this
  · intro i _
    show Int.tmod (wrap64 ((M i : Nat) : Int)) _ = _
    rw [en, en8, hMw, Int.tmod_eq_emod_of_nonneg (by omega)]
    show _ = ((Q i : Nat) : Int)
    rw [hQe]
    rfl
  · intro hd
    have hne : synd (c (ct % 3 + 1)) ≠ 0 := by
      have d : ∀ i j, j < i → i ≤ ct % 3 → Q i ≠ Q j := fun i j h1 h2 e => hd i j h1 h2 (congrArg Nat.cast e)
      have y1 : synd (c 1) = errE K (Q 0) := by
        have := hcy 0
        rw [hc0, hsy, Nat.zero_xor] at this
        exact this
      have y2 : synd (c 2) = errE K (Q 0) ^^^ errE K (Q 1) := by
        have := hcy 1
        rw [y1] at this
        exact this
      have y3 : synd (c 3) = errE K (Q 0) ^^^ errE K (Q 1) ^^^ errE K (Q 2) := by
        have := hcy 2
        rw [y2] at this
        exact this
      rcases (show ct % 3 = 0 ∨ ct % 3 = 1 ∨ ct % 3 = 2 by omega) with e | e | e
      · rw [e, y1]
        exact one_flip _ _
      · rw [e, y2]
        exact two_flips hK (hQ 0) (hQ 1) (d 1 0 (by omega) (by omega)).symm
      · rw [e, y3]
        exact three_flips _ _ _ _
    have h := sealed_pure (hcb (ct % 3 + 1)).1 (by rw [(hcb (ct % 3 + 1)).2]; omega)
    rw [sealed_iff (hcb (ct % 3 + 1)).1 (by rw [(hcb (ct % 3 + 1)).2]; exact hK12), decide_eq_false hne] at h
    exact h.rounds
theorem int_nat {k : IntKind} {x : Int} (hs : k.signed = false) (h : (Lit.int k x).wf = true) : ∃ n : Nat, x = (n : Int) ∧ n < 2 ^ k.bits := by
  simp [Lit.wf, IntKind.min, IntKind.max, hs] at h
  refine ⟨x.toNat, by omega, ?_⟩
  have := h.2
  cases k <;> simp [IntKind.bits, IntKind.signed] at * <;> omega
/-- The law, as the row hands its arguments over. -/
theorem flips_row (a0 a1 x0 x1 x2 a3 : Int) (w : World) (w1 : (Lit.int .u16 a1).wf = true) (v0 : (Lit.int .u32 x0).wf = true) (v1 : (Lit.int .u32 x1).wf = true) (v2 : (Lit.int .u32 x2).wf = true) (w3 : (Lit.int .u8 a3).wf = true) :
    Calls Try.prog 5 #[.int .u64 a0, .int .u16 a1, .agg #[.int .u32 x0, .int .u32 x1, .int .u32 x2], .int .u8 a3] w fun e w' => e = .returned (.bool true) ∧ Below w.heap.size w w' := by
  obtain ⟨n, rfl, hn⟩ := int_nat (k := .u16) rfl w1
  obtain ⟨m0, rfl, h0⟩ := int_nat (k := .u32) rfl v0
  obtain ⟨m1, rfl, h1⟩ := int_nat (k := .u32) rfl v1
  obtain ⟨m2, rfl, h2⟩ := int_nat (k := .u32) rfl v2
  obtain ⟨ct, rfl, hct⟩ := int_nat (k := .u8) rfl w3
  refine flips_law a0 n ct (fun i => match i with | 0 => m0 | 1 => m1 | _ => m2) w hct hn (fun i => ?_)
  match i with
  | 0 => exact h0
  | 1 => exact h1
  | _ + 2 => exact h2
end Go.Proofs.Ytfhnakebfiaccaa.P
