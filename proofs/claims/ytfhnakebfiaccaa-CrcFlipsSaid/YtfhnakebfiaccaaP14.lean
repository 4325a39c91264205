/- Contracts of Go functions, laid by a program of this session: each Go function comes to what the Lean function beside it tells, wherever that one tells something. -/
import Derived.Test.YtfhnakebfiaccaaP0
namespace Go.Proofs.Ytfhnakebfiaccaa.P
open Go.RowKit Go.Proofs.YtfhnakebfiaccaaW.PrintWords Go.Proofs.YtfhnakebfiaccaaW.PrintLast Go.Proofs.YtfhnakebfiaccaaW.PrintMore
attribute [local go_sem] max2_int min2_int max_two min_two max_three min_three max_four min_four   -- for this text's walks alone
set_option linter.unusedVariables false
set_option linter.unusedSimpArgs false

/-! ### wharfref05_Spread: function 21 -/
def wharfref05_Spread.l0 : Nat → Int → List Int → Int → Int → Option (List Int)
  | 0, _, _, _, _ => none
  | k + 1, x1, x5, x6, x7 => if x7 < x1 then (if x5.length < 140737488355328 then (wharfref05_Spread.l0 k x1 (x5 ++ [((IntKind.u64.wrap ((IntKind.u64.wrap (x6 * 6364136223846793005)) + 1442695040888963407)) / 8589934592) % 256]) (IntKind.u64.wrap ((IntKind.u64.wrap (x6 * 6364136223846793005)) + 1442695040888963407)) (wrap64 (x7 + 1))) else (none)) else (some x5)
def wharfref05_Spread.f (k : Nat) (a0 : Int) (a1 : Int) : Option (List Int) := wharfref05_Spread.l0 k a1 ([] : List Int) a0 0
theorem wharfref05_Spread.mono_l : ∀ k, (∀ y0 y1 y2 y3, LeO (wharfref05_Spread.l0 k y0 y1 y2 y3) (wharfref05_Spread.l0 (k + 1) y0 y1 y2 y3))
  | 0 => fun _ _ _ _ r h => by simp [wharfref05_Spread.l0] at h
  | k + 1 => by
    have ih0 := wharfref05_Spread.mono_l k
    · intro y0 y1 y2 y3
      unfold wharfref05_Spread.l0
      repeat' first
      | (with_reducible exact ih0 _ _ _ _)
      | (with_reducible exact LeO.refl _)
      | (with_reducible exact LeO.none _)
      | (with_reducible refine LeO.ite ?_ ?_)
      | (with_reducible refine LeO.bind ?_ (fun _ => ?_))
      | exact ih0 _ _ _ _
      | exact LeO.none _
      | refine LeO.ite ?_ ?_
      | refine LeO.bind ?_ (fun _ => ?_)
theorem wharfref05_Spread.mono : ∀ a0 a1 k, LeO (wharfref05_Spread.f k a0 a1) (wharfref05_Spread.f (k + 1) a0 a1) := by
  intro a0 a1 k
  have ih0 := wharfref05_Spread.mono_l k
  unfold wharfref05_Spread.f
  repeat' first
      | (with_reducible exact ih0 _ _ _ _)
      | (with_reducible exact LeO.refl _)
      | (with_reducible exact LeO.none _)
      | (with_reducible refine LeO.ite ?_ ?_)
      | (with_reducible refine LeO.bind ?_ (fun _ => ?_))
      | exact ih0 _ _ _ _
      | exact LeO.none _
      | refine LeO.ite ?_ ?_
      | refine LeO.bind ?_ (fun _ => ?_)
set_option maxHeartbeats 8000000 in
set_option maxRecDepth 100000 in
theorem wharfref05_Spread.calls (k : Nat) (a0 : Int) (a1 : Int) (r : List Int) (w : World) (h : wharfref05_Spread.f k a0 a1 = some r) :
    Calls Try.prog 21 #[.int .u64 a0, .int .i64 a1] w fun e w' => ∃ v0_ : Value, e = .returned (v0_) ∧ Kd.R (Kd.int .u8) 5 w' w.heap.size (fun _ => True) v0_ r ∧ Below w.heap.size w w' := by
  have HB := Aside0.mk (Below.refl w.heap.size w)
  have H : (wharfref05_Spread.l0 k a1 ([] : List Int) a0 0) = some r := h
  clear h
  have H' := Aside0.mk H
  clear H
  go_enter Try.func21, Try.ntmps21
  go_wp2
  go_loopg [5, 6, 7] k (fun kq v5 v6 v7 w' => ∃ (x5_1 : List Int) (x6_1 : Int) (x7_1 : Int), v6 = .int .u64 x6_1 ∧ v7 = .int .i64 x7_1 ∧ Aside0 (wharfref05_Spread.l0 kq a1 x5_1 x6_1 x7_1 = some r) ∧ Aside0 (kq ≤ k) ∧ Aside0 (Kd.R (Kd.int .u8) 5 w' w.heap.size (fun _ => True) v5 x5_1) ∧ Aside0 (Below w.heap.size w w'))
  case atStart => exact ⟨(([] : List Int)), (a0), (0), (by first | rfl | (simp; done) | (simp [*]; done)), (by first | rfl | (simp; done) | (simp [*]; done)), H', ⟨Nat.le_refl _⟩, ⟨by first | exact Kd.R_nil _ _ _ _ _ | exact Kd.N_nil _ _ _ _ _ | exact Kd.V_nil _ _ _ _ _ | exact Kd.Q_nil _ _ _ _ _ | exact Kd.S_nil _ _ _ _ _⟩, ⟨by repeat (first | (with_reducible first | exact HB.out | apply below_alloc | apply pw_below_drewN | apply below_drew1) | exact HB.out)⟩⟩
  case round =>
    clear H'
    try clear c2
    try clear p2
    obtain ⟨x5_1, x6_1, x7_1, rfl, rfl, HA, HK1, HO_5, HB⟩ := hrel
    cases gk with
    | zero => exact absurd HA.out (by simp [wharfref05_Spread.l0])
    | succ k1 =>
      have H := HA.out
      clear HA
      simp only [wharfref05_Spread.l0] at H
      by_cases c3 : x7_1 < a1
      · rw [if_pos c3] at H
        have c3b0 : decide (x7_1 < a1) = true := decide_eq_true c3
        clear c3
        by_cases c4 : x5_1.length < 140737488355328
        · rw [if_pos c4] at H
          have LMc4 := Aside0.mk c4
          clear c4
          obtain ⟨y345, hy345⟩ : ∃ y_ : List Int, y_ = (x5_1 ++ [((IntKind.u64.wrap ((IntKind.u64.wrap (x6_1 * 6364136223846793005)) + 1442695040888963407)) / 8589934592) % 256]) := ⟨_, rfl⟩
          replace H : (wharfref05_Spread.l0 k1 a1 y345 (IntKind.u64.wrap ((IntKind.u64.wrap (x6_1 * 6364136223846793005)) + 1442695040888963407)) (wrap64 (x7_1 + 1))) = some r := by first | (rw [hy345]; with_reducible exact H) | (have H2_ := (Option.bind_some _ _).symm.trans H; rw [hy345]; with_reducible exact H2_) | (have H2_ := (Option.bind_some _ _).symm.trans H; with_reducible exact H2_) | with_reducible exact H | (rw [hy345]; exact H) | exact H
          have Ny345 := Aside0.mk hy345
          clear hy345
          have H' := Aside0.mk H
          clear H
          go_wp2_with (first | ((with_reducible refine gate_builtin (b := .append) (xs := #[.tmp 17, .tmp 21]) rfl ?_); at_builtin; refine Kd.R_append (Kd.int .u8) (w0 := w) w.heap.size rfl (.tmp 17) (.tmp 21) 24 5 (.int .u8 0) 1 rfl Try.underlying24 info5 rfl (by decide) (by omega) u5 x5_1 (((IntKind.u64.wrap ((IntKind.u64.wrap (x6_1 * 6364136223846793005)) + 1442695040888963407)) / 8589934592) % 256) [.int .u8 (((IntKind.u64.wrap ((IntKind.u64.wrap (x6_1 * 6364136223846793005)) + 1442695040888963407)) / 8589934592) % 256)] (fun _ => True) (fun _ => False) rfl rfl ?aP (fun _ hk => hk.elim) ?aF ?aO ?aB ?aS ?aL ?_; (case aP => exact rfl); (case aB => exact (by repeat (first | (with_reducible first | exact HB.out | apply below_alloc | apply pw_below_drewN | apply below_drew1) | exact HB.out))); (case aF => exact (fun _ _ => trivial)); (case aO => exact (by (with_reducible repeat (first | apply Kd.R_alloc | apply Kd.R_drewN | apply Kd.R_drew)); exact HO_5.out)); (case aS => exact (below_size (by repeat (first | (with_reducible first | exact HB.out | apply below_alloc | apply pw_below_drewN | apply below_drew1) | exact HB.out)))); (case aL => have := LMc4.out; omega); intro v346 w5 ho hb hg hat; rw [← Ny345.out] at ho; have n0_ := Aside0.mk (hb); have n1_ := Aside0.mk (ho); clear HB; clear HO_5; have HB := n0_; have HO347 := n1_; clear n0_ n1_; clear ho hb hg hat))
          go_roundg k1
          case measure => have := HK1.out; omega
          case rel => exact ⟨(y345), (IntKind.u64.wrap ((IntKind.u64.wrap (x6_1 * 6364136223846793005)) + 1442695040888963407)), (wrap64 (x7_1 + 1)), (by first | rfl | (simp; done) | (simp [*]; done)), (by first | rfl | (simp; done) | (simp [*]; done)), H', ⟨by have := HK1.out; omega⟩, ⟨by (with_reducible repeat (first | apply Kd.R_alloc | apply Kd.R_drewN | apply Kd.R_drew)); exact HO347.out⟩, ⟨by repeat (first | (with_reducible first | exact HB.out | apply below_alloc | apply pw_below_drewN | apply below_drew1) | exact HB.out)⟩⟩
        · rw [if_neg c4] at H
          exact absurd H (by simp)
      · rw [if_neg c3] at H
        have c3b0 : decide (x7_1 < a1) = false := decide_eq_false c3
        clear c3
        obtain rfl := Option.some.inj H
        go_wp2
        go_ret
        exact ⟨_, by first | rfl | (simp [errW_none, errW_some] <;> rfl) | (simp [*, errW_none, errW_some] <;> rfl), by (with_reducible repeat (first | apply Kd.R_alloc | apply Kd.R_drewN | apply Kd.R_drew)); exact HO_5.out, by repeat (first | (with_reducible first | exact HB.out | apply below_alloc | apply pw_below_drewN | apply below_drew1) | exact HB.out)⟩

/-! ### wharflaw05_flip: function 22 -/
def wharflaw05_flip.f (l0 : List Int) (a1 : Int) : Option (List Int) := if (wrap64 (8 * (l0.length : Int))) = 0 then (none) else (if 0 ≤ (wrap64 (Int.tdiv (Int.tmod a1 (wrap64 (8 * (l0.length : Int)))) 8)) then (if (wrap64 (Int.tdiv (Int.tmod a1 (wrap64 (8 * (l0.length : Int)))) 8)) < (l0.length : Int) then (if 0 ≤ (IntKind.u64.wrap (Int.tmod (Int.tmod a1 (wrap64 (8 * (l0.length : Int)))) 8)) then (some (l0.set ((wrap64 (Int.tdiv (Int.tmod a1 (wrap64 (8 * (l0.length : Int)))) 8)) : Int).toNat (Go.bits .xor .u8 (rd l0 (wrap64 (Int.tdiv (Int.tmod a1 (wrap64 (8 * (l0.length : Int)))) 8))) (shl .u8 1 (IntKind.u64.wrap (Int.tmod (Int.tmod a1 (wrap64 (8 * (l0.length : Int)))) 8)))))) else (none)) else (none)) else (none))
set_option maxHeartbeats 8000000 in
set_option maxRecDepth 100000 in
theorem wharflaw05_flip.calls (P0_ : Nat → Prop) (u9000_ : Value) (l0 : List Int) (a1 : Int) (r : List Int) (w0 w : World) (hB : Below w0.heap.size w0 w) (ho0 : Kd.R (Kd.int .u8) 5 w w0.heap.size P0_ u9000_ l0) (h : wharflaw05_flip.f l0 a1 = some r) :
    Calls Try.prog 22 #[u9000_, .int .i64 a1] w fun e w' => ∃ v0_ : Value, e = .returned (v0_) ∧ Kd.R (Kd.int .u8) 5 w' w0.heap.size (fun k_ => (P0_ k_ ∨ w.heap.size ≤ k_)) v0_ r ∧ Below w0.heap.size w0 w' ∧ Kept w w' (fun k_ => P0_ k_) := by
  have HO0 := Aside0.mk (show Kd.R (Kd.int .u8) 5 w w0.heap.size (fun k_ => (P0_ k_ ∨ w.heap.size ≤ k_)) u9000_ l0 from Kd.R_mono ho0 (fun k_ hk => (.inl hk)))
  have HK := Aside0.mk (Kept.refl w (fun k_ => P0_ k_))
  have HW0 := Aside0.mk hB.size
  have HB := Aside0.mk hB
  clear hB
  have H : (if (wrap64 (8 * (l0.length : Int))) = 0 then (none) else (if 0 ≤ (wrap64 (Int.tdiv (Int.tmod a1 (wrap64 (8 * (l0.length : Int)))) 8)) then (if (wrap64 (Int.tdiv (Int.tmod a1 (wrap64 (8 * (l0.length : Int)))) 8)) < (l0.length : Int) then (if 0 ≤ (IntKind.u64.wrap (Int.tmod (Int.tmod a1 (wrap64 (8 * (l0.length : Int)))) 8)) then (some (l0.set ((wrap64 (Int.tdiv (Int.tmod a1 (wrap64 (8 * (l0.length : Int)))) 8)) : Int).toNat (Go.bits .xor .u8 (rd l0 (wrap64 (Int.tdiv (Int.tmod a1 (wrap64 (8 * (l0.length : Int)))) 8))) (shl .u8 1 (IntKind.u64.wrap (Int.tmod (Int.tmod a1 (wrap64 (8 * (l0.length : Int)))) 8)))))) else (none)) else (none)) else (none))) = some r := h
  clear h
  by_cases c3 : (wrap64 (8 * (l0.length : Int))) = 0
  · rw [if_pos c3] at H
    exact absurd H (by simp)
  · rw [if_neg c3] at H
    have c3b0 : ((wrap64 (8 * (l0.length : Int))) == 0) = false := beq_eq_false_iff_ne.mpr c3
    have c3b1 : ((wrap64 (8 * (l0.length : Int))) != 0) = true := bne_iff_ne.mpr c3
    obtain ⟨ji4, hji4⟩ : ∃ j_ : Int, (wrap64 (Int.tdiv (Int.tmod a1 (wrap64 (8 * (l0.length : Int)))) 8)) = j_ := ⟨_, rfl⟩
    replace H : (if 0 ≤ (ji4) then (if (ji4) < (l0.length : Int) then (if 0 ≤ (IntKind.u64.wrap (Int.tmod (Int.tmod a1 (wrap64 (8 * (l0.length : Int)))) 8)) then (some (l0.set ((ji4) : Int).toNat (Go.bits .xor .u8 (rd l0 (ji4)) (shl .u8 1 (IntKind.u64.wrap (Int.tmod (Int.tmod a1 (wrap64 (8 * (l0.length : Int)))) 8)))))) else (none)) else (none)) else (none)) = some r := by first | (rw [hji4] at H; exact H) | (simp only [hji4] at H ⊢; exact H)
    have hji4w : (IntKind.i64.wrap (Int.tdiv (Int.tmod a1 (wrap64 (8 * (l0.length : Int)))) 8)) = ji4 := (i64_w _).trans hji4
    by_cases c5 : 0 ≤ (ji4)
    · rw [if_pos c5] at H
      have c5b0 : decide (0 ≤ (ji4)) = true := decide_eq_true c5
      clear c5
      by_cases c6 : (ji4) < (l0.length : Int)
      · rw [if_pos c6] at H
        have c6b0 : decide ((ji4) < (l0.length : Int)) = true := decide_eq_true c6
        clear c6
        obtain ⟨ji7, hji7⟩ : ∃ j_ : Int, (IntKind.u64.wrap (Int.tmod (Int.tmod a1 (wrap64 (8 * (l0.length : Int)))) 8)) = j_ := ⟨_, rfl⟩
        replace H : (if 0 ≤ (ji7) then (some (l0.set ((ji4) : Int).toNat (Go.bits .xor .u8 (rd l0 (ji4)) (shl .u8 1 (ji7))))) else (none)) = some r := by first | (rw [hji7] at H; exact H) | (simp only [hji7] at H ⊢; exact H)
        by_cases c8 : 0 ≤ (ji7)
        · rw [if_pos c8] at H
          have c8b0 := eq_true c8
          have c8b1 : decide (0 ≤ (ji7)) = true := decide_eq_true c8
          clear c8
          obtain ⟨ji9, hji9⟩ : ∃ j_ : Int, (shl .u8 1 (ji7)) = j_ := ⟨_, rfl⟩
          replace H : (some (l0.set ((ji4) : Int).toNat (Go.bits .xor .u8 (rd l0 (ji4)) (ji9)))) = some r := by first | (rw [hji9] at H; exact H) | (simp only [hji9] at H ⊢; exact H)
          have hji9_ : (IntKind.u8.wrap (1 * 2 ^ min (ji7).toNat 8)) = ji9 := hji9
          have hji9z : (ji7) ≤ 8 → (IntKind.u8.wrap (1 * 2 ^ (ji7).toNat)) = ji9 := shl_small hji9
          have hji9u : (IntKind.u8.wrap (2 ^ min (ji7).toNat 8)) = ji9 := by have h_ := hji9_; rw [Int.one_mul] at h_; exact h_
          have hji9v : (ji7) ≤ 8 → (IntKind.u8.wrap (2 ^ (ji7).toNat)) = ji9 := fun hle_ => by have h_ := hji9z hle_; rw [Int.one_mul] at h_; exact h_
          obtain ⟨y349, hy349⟩ : ∃ y_ : List Int, y_ = (l0.set ((ji4) : Int).toNat (Go.bits .xor .u8 (rd l0 (ji4)) (ji9))) := ⟨_, rfl⟩
          replace H : (some y349) = some r := by first | (rw [hy349]; with_reducible exact H) | (have H2_ := (Option.bind_some _ _).symm.trans H; rw [hy349]; with_reducible exact H2_) | (have H2_ := (Option.bind_some _ _).symm.trans H; with_reducible exact H2_) | with_reducible exact H | (rw [hy349]; exact H) | exact H
          have Ny349 := Aside0.mk hy349
          clear hy349
          obtain rfl := Option.some.inj H
          obtain ⟨Ao11, co11, eo11⟩ := Kd.R_slice HO0.out
          subst eo11
          have p348 : 0 ≤ ((ji4) : Int) := of_decide_eq_true (by first | (with_reducible assumption) | assumption)
          have q348 : (ji4) < (l0.length : Int) := of_decide_eq_true (by first | (with_reducible assumption) | assumption)
          obtain ⟨ad348, e348, hx348_0⟩ := Kd.at_int (Kd.R_reads' HO0.out).2.2 (ji4) p348 q348
          cases e348
          replace p348 := eq_true p348
          replace q348 := eq_true q348
          have p10 : 0 ≤ ((ji4) : Int) := of_decide_eq_true (by first | (with_reducible assumption) | assumption)
          have q10 : ((ji4) : Int) < ((l0.length : Int) : Int) := of_decide_eq_true (by first | (with_reducible assumption) | assumption)
          obtain ⟨go10, co10, eo10, gb10, gl10, cl10, HG10⟩ := Kd.R_form HO0.out (by omega)
          (first | cases eo10 | (injection eo10 with ea_ en_ ec_; (first | subst ea_ | (injection ea_ with ea_; subst ea_)); subst ec_; clear en_))
          have GB10 := Aside0.mk gb10
          have GG10 := Aside0.mk HG10
          clear gb10 gl10 HG10
          have HMgo10 := Aside0.mk (show (P0_ go10 ∨ w.heap.size ≤ go10) from (HO0.out.1 _ rfl))
          (first | simp only [add_plain] at hx348_0 | skip)
          obtain ⟨hx10_0, hf10_0⟩ := Kd.R_celln 0 HO0.out ((ji4) : Int) p10 q10
          replace p10 := eq_true p10
          replace q10 := eq_true q10
          have HP12 := Kd.R_putg HO0.out ((ji4) : Int) (Go.bits .xor .u8 (rd l0 (ji4)) (ji9))
          go_enter Try.func22, Try.ntmps22
          go_wp2_with (first | ((with_reducible refine gate_store (t := 5) (p := 24) rfl ?_); refine store_event (t := 5) (p := 24) (v := ?vo_w13) (w1 := (w.setCell ⟨go10, ((ji4) : Int).toNat, none⟩ (.int .u8 (Go.bits .xor .u8 (rd l0 (ji4)) (ji9))))) ?hg ?ho ?hn ?hr ?_; (case ho => rfl); (case hg => rfl); (case hn => rfl); (case hr => first | (go_simp; done) | (go_simp; rfl)); intro w13 hw; have hg : w.grownBy w13 (some go10) := (by rw [hw]; exact HP12.2); have hp_ : Kd.R (Kd.int .u8) 5 w13 w0.heap.size (fun k_ => (P0_ k_ ∨ w.heap.size ≤ k_)) (.slice (some ⟨go10, 0, none⟩) l0.length co11) y349 := (by rw [hw, Ny349.out]; exact HP12.1); clear HP12; have n0_ := Aside0.mk (hp_); have n1_ := Aside0.mk ((by rw [hw]; exact below_set (HB.out) GB10.out : Below w0.heap.size w0 w13)); have n2_ := Aside0.mk (Kept.of_grown (S := (fun k_ => P0_ k_)) hg (by repeat (first | (with_reducible first | exact HK.out | apply Kept.alloc | apply Kept.drewN | apply Kept.drew) | exact HK.out)) (fun k_ e_ => (HO0.out.1 k_ e_))); clear HO0; clear HB; clear HK; have HO0 := n0_; have HB := n1_; have HK := n2_; clear n0_ n1_ n2_; clear hg hw hp_))
          go_ret
          exact ⟨_, by first | rfl | (simp [errW_none, errW_some] <;> rfl) | (simp only [← hji4, ← hji7, ← hji9]; first | rfl | (simp [errW_none, errW_some] <;> rfl)) | (simp [*, errW_none, errW_some] <;> rfl), by (with_reducible repeat (first | apply Kd.R_alloc | apply Kd.R_drewN | apply Kd.R_drew)); exact HO0.out, by repeat (first | (with_reducible first | exact HB.out | apply below_alloc | apply pw_below_drewN | apply below_drew1) | exact HB.out), by repeat (first | (with_reducible first | exact HK.out | apply Kept.alloc | apply Kept.drewN | apply Kept.drew) | exact HK.out)⟩
        · rw [if_neg c8] at H
          exact absurd H (by simp)
      · rw [if_neg c6] at H
        exact absurd H (by simp)
    · rw [if_neg c5] at H
      exact absurd H (by simp)

-- NOT PRINTED: function 5 (wharflaw05_CrcFlips)

end Go.Proofs.Ytfhnakebfiaccaa.P
