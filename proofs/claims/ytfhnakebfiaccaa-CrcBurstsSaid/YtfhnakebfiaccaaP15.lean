/- Contracts of Go functions, laid by a program of this session: each Go function comes to what the Lean function beside it tells, wherever that one tells something. -/
import Derived.Test.YtfhnakebfiaccaaP0
import Derived.Test.YtfhnakebfiaccaaP5
import Derived.Test.YtfhnakebfiaccaaP12
import Derived.Test.YtfhnakebfiaccaaP14
import Derived.Test.YtfhnakebfiaccaaExtC
namespace Go.Proofs.Ytfhnakebfiaccaa.P
open Go.RowKit Go.Proofs.YtfhnakebfiaccaaW.PrintWords Go.Proofs.YtfhnakebfiaccaaW.PrintLast Go.Proofs.YtfhnakebfiaccaaW.PrintMore
attribute [local go_sem] max2_int min2_int max_two min_two max_three min_three max_four min_four   -- for this text's walks alone
set_option linter.unusedVariables false
set_option linter.unusedSimpArgs false

/-! ### wharflaw05_CrcBursts: function 6 -/
mutual
def wharflaw05_CrcBursts.j0 : Nat → Int → Int → Int → Int → Int → Bool → Option (Bool)
  | 0, _, _, _, _, _, _ => none
  | k + 1, x0, x1, x2, x3, x4, x24 => if x24 = true then ((wharflaw05_awake.f).bind fun t351 => (some t351)) else ((wharfref05_Spread.f k x0 (wrap64 (12 + (Int.tmod (wrap64 (x1)) 3000)))).bind fun t352 => ((wharfref05_Seal.f k t352).bind fun t355 => ((some (([0, 64, 96] : List Int) : List Int)).bind fun y358 => (if 0 ≤ (Int.tmod (wrap64 (x4)) 3) then (if (Int.tmod (wrap64 (x4)) 3) < (y358.length : Int) then ((some (([64, 96, wrap64 (8 * (wrap64 (12 + (Int.tmod (wrap64 (x1)) 3000))))] : List Int) : List Int)).bind fun y362 => (if (Int.tmod (wrap64 (x4)) 3) < (y362.length : Int) then (if (rd y362 (Int.tmod (wrap64 (x4)) 3)) = (rd y358 (Int.tmod (wrap64 (x4)) 3)) then ((crc_Sealed.f k t355).bind fun t366 => (some t366)) else (if (wrap64 ((rd y362 (Int.tmod (wrap64 (x4)) 3)) - (rd y358 (Int.tmod (wrap64 (x4)) 3)))) = 0 then (none) else ((some (([] : List Int) : List Int)).bind fun y367 => (if y367.length + t355.length < 140737488355328 then (wharflaw05_CrcBursts.l0 k x3 t355 (rd y362 (Int.tmod (wrap64 (x4)) 3)) (wrap64 ((rd y358 (Int.tmod (wrap64 (x4)) 3)) + (Int.tmod (wrap64 (x2)) (wrap64 ((rd y362 (Int.tmod (wrap64 (x4)) 3)) - (rd y358 (Int.tmod (wrap64 (x4)) 3))))))) (y367 ++ t355) true 0) else (none))))) else (none))) else (none)) else (none)))))
def wharflaw05_CrcBursts.l0 : Nat → Int → List Int → Int → Int → List Int → Bool → Int → Option (Bool)
  | 0, _, _, _, _, _, _, _ => none
  | k + 1, x3, x12, x14, x15, x16, x17, x18 => if x18 < 32 then (wharflaw05_CrcBursts.j2 k x3 x12 x14 x15 x16 x17 x18 (decide ((wrap64 (x15 + x18)) < x14))) else (wharflaw05_CrcBursts.j2 k x3 x12 x14 x15 x16 x17 x18 false)
def wharflaw05_CrcBursts.j2 : Nat → Int → List Int → Int → Int → List Int → Bool → Int → Bool → Option (Bool)
  | 0, _, _, _, _, _, _, _, _ => none
  | k + 1, x3, x12, x14, x15, x16, x17, x18, x72 => if x72 = true then (if 0 ≤ (IntKind.u64.wrap (x18)) then (if (Go.bits .and .u32 (shr .u32 x3 (IntKind.u64.wrap (x18))) 1) = 1 then ((wharflaw05_flip.f x16 (wrap64 (x15 + x18))).bind fun t373 => (wharflaw05_CrcBursts.l0 k x3 x12 x14 x15 t373 false (wrap64 (x18 + 1)))) else (wharflaw05_CrcBursts.l0 k x3 x12 x14 x15 x16 x17 (wrap64 (x18 + 1)))) else (none)) else ((crc_Sealed.f k x12).bind fun t376 => (if t376 = true then ((crc_Sealed.f k x16).bind fun t377 => (some (t377 == x17))) else (some false)))
end
def wharflaw05_CrcBursts.f (k : Nat) (a0 : Int) (a1 : Int) (a2 : Int) (a3 : Int) (a4 : Int) : Option (Bool) := (wharflaw05_awake.f).bind fun t350 => (if t350 = true then (wharflaw05_CrcBursts.j0 k a0 a1 a2 a3 a4 (a3 == 0)) else (wharflaw05_CrcBursts.j0 k a0 a1 a2 a3 a4 true))
theorem wharflaw05_CrcBursts.mono_l : ∀ k, (∀ y0 y1 y2 y3 y4 y5, LeO (wharflaw05_CrcBursts.j0 k y0 y1 y2 y3 y4 y5) (wharflaw05_CrcBursts.j0 (k + 1) y0 y1 y2 y3 y4 y5)) ∧ (∀ y0 y1 y2 y3 y4 y5 y6, LeO (wharflaw05_CrcBursts.l0 k y0 y1 y2 y3 y4 y5 y6) (wharflaw05_CrcBursts.l0 (k + 1) y0 y1 y2 y3 y4 y5 y6)) ∧ (∀ y0 y1 y2 y3 y4 y5 y6 y7, LeO (wharflaw05_CrcBursts.j2 k y0 y1 y2 y3 y4 y5 y6 y7) (wharflaw05_CrcBursts.j2 (k + 1) y0 y1 y2 y3 y4 y5 y6 y7))
  | 0 => ⟨fun _ _ _ _ _ _ r h => by simp [wharflaw05_CrcBursts.j0] at h, fun _ _ _ _ _ _ _ r h => by simp [wharflaw05_CrcBursts.l0] at h, fun _ _ _ _ _ _ _ _ r h => by simp [wharflaw05_CrcBursts.j2] at h⟩
  | k + 1 => by
    obtain ⟨ih0, ih1, ih2⟩ := wharflaw05_CrcBursts.mono_l k
    refine ⟨?_, ?_, ?_⟩
    · intro y0 y1 y2 y3 y4 y5
      unfold wharflaw05_CrcBursts.j0
      repeat' first
      | (with_reducible exact ih0 _ _ _ _ _ _)
      | (with_reducible exact ih1 _ _ _ _ _ _ _)
      | (with_reducible exact ih2 _ _ _ _ _ _ _ _)
      | (with_reducible exact crc_Sealed.mono _ _)
      | (with_reducible exact wharfref05_Seal.mono _ _)
      | (with_reducible exact wharfref05_Spread.mono _ _ _)
      | (with_reducible exact LeO.refl _)
      | (with_reducible exact LeO.none _)
      | (with_reducible refine LeO.ite ?_ ?_)
      | (with_reducible refine LeO.bind ?_ (fun _ => ?_))
      | exact ih0 _ _ _ _ _ _
      | exact ih1 _ _ _ _ _ _ _
      | exact ih2 _ _ _ _ _ _ _ _
      | exact crc_Sealed.mono _ _
      | exact wharfref05_Seal.mono _ _
      | exact wharfref05_Spread.mono _ _ _
      | exact LeO.none _
      | refine LeO.ite ?_ ?_
      | refine LeO.bind ?_ (fun _ => ?_)
    · intro y0 y1 y2 y3 y4 y5 y6
      unfold wharflaw05_CrcBursts.l0
      repeat' first
      | (with_reducible exact ih0 _ _ _ _ _ _)
      | (with_reducible exact ih1 _ _ _ _ _ _ _)
      | (with_reducible exact ih2 _ _ _ _ _ _ _ _)
      | (with_reducible exact crc_Sealed.mono _ _)
      | (with_reducible exact wharfref05_Seal.mono _ _)
      | (with_reducible exact wharfref05_Spread.mono _ _ _)
      | (with_reducible exact LeO.refl _)
      | (with_reducible exact LeO.none _)
      | (with_reducible refine LeO.ite ?_ ?_)
      | (with_reducible refine LeO.bind ?_ (fun _ => ?_))
      | exact ih0 _ _ _ _ _ _
      | exact ih1 _ _ _ _ _ _ _
      | exact ih2 _ _ _ _ _ _ _ _
      | exact crc_Sealed.mono _ _
      | exact wharfref05_Seal.mono _ _
      | exact wharfref05_Spread.mono _ _ _
      | exact LeO.none _
      | refine LeO.ite ?_ ?_
      | refine LeO.bind ?_ (fun _ => ?_)
    · intro y0 y1 y2 y3 y4 y5 y6 y7
      unfold wharflaw05_CrcBursts.j2
      repeat' first
      | (with_reducible exact ih0 _ _ _ _ _ _)
      | (with_reducible exact ih1 _ _ _ _ _ _ _)
      | (with_reducible exact ih2 _ _ _ _ _ _ _ _)
      | (with_reducible exact crc_Sealed.mono _ _)
      | (with_reducible exact wharfref05_Seal.mono _ _)
      | (with_reducible exact wharfref05_Spread.mono _ _ _)
      | (with_reducible exact LeO.refl _)
      | (with_reducible exact LeO.none _)
      | (with_reducible refine LeO.ite ?_ ?_)
      | (with_reducible refine LeO.bind ?_ (fun _ => ?_))
      | exact ih0 _ _ _ _ _ _
      | exact ih1 _ _ _ _ _ _ _
      | exact ih2 _ _ _ _ _ _ _ _
      | exact crc_Sealed.mono _ _
      | exact wharfref05_Seal.mono _ _
      | exact wharfref05_Spread.mono _ _ _
      | exact LeO.none _
      | refine LeO.ite ?_ ?_
      | refine LeO.bind ?_ (fun _ => ?_)
theorem wharflaw05_CrcBursts.mono : ∀ a0 a1 a2 a3 a4 k, LeO (wharflaw05_CrcBursts.f k a0 a1 a2 a3 a4) (wharflaw05_CrcBursts.f (k + 1) a0 a1 a2 a3 a4) := by
  intro a0 a1 a2 a3 a4 k
  obtain ⟨ih0, ih1, ih2⟩ := wharflaw05_CrcBursts.mono_l k
  unfold wharflaw05_CrcBursts.f
  repeat' first
      | (with_reducible exact ih0 _ _ _ _ _ _)
      | (with_reducible exact ih1 _ _ _ _ _ _ _)
      | (with_reducible exact ih2 _ _ _ _ _ _ _ _)
      | (with_reducible exact crc_Sealed.mono _ _)
      | (with_reducible exact wharfref05_Seal.mono _ _)
      | (with_reducible exact wharfref05_Spread.mono _ _ _)
      | (with_reducible exact LeO.refl _)
      | (with_reducible exact LeO.none _)
      | (with_reducible refine LeO.ite ?_ ?_)
      | (with_reducible refine LeO.bind ?_ (fun _ => ?_))
      | exact ih0 _ _ _ _ _ _
      | exact ih1 _ _ _ _ _ _ _
      | exact ih2 _ _ _ _ _ _ _ _
      | exact crc_Sealed.mono _ _
      | exact wharfref05_Seal.mono _ _
      | exact wharfref05_Spread.mono _ _ _
      | exact LeO.none _
      | refine LeO.ite ?_ ?_
      | refine LeO.bind ?_ (fun _ => ?_)
set_option maxHeartbeats 8000000 in
set_option maxRecDepth 100000 in
theorem wharflaw05_CrcBursts.calls (k : Nat) (a0 : Int) (a1 : Int) (a2 : Int) (a3 : Int) (a4 : Int) (r : Bool) (w : World) (h : wharflaw05_CrcBursts.f k a0 a1 a2 a3 a4 = some r) :
    Calls Try.prog 6 #[.int .u64 a0, .int .u16 a1, .int .u32 a2, .int .u32 a3, .int .u8 a4] w fun e w' => e = .returned (.bool r) ∧ Below w.heap.size w w' := by
  have HB := Aside0.mk (Below.refl w.heap.size w)
  have H : ((wharflaw05_awake.f).bind fun t350 => (if t350 = true then (wharflaw05_CrcBursts.j0 k a0 a1 a2 a3 a4 (a3 == 0)) else (wharflaw05_CrcBursts.j0 k a0 a1 a2 a3 a4 true))) = some r := h
  clear h
  have HC6 := Aside0.mk H
  clear H
  go_enter Try.func6, Try.ntmps6
  go_upto_region 1 with (fail)
  go_cut [24] (fun v24 wc => ∃ (kq : Nat) (x24_5 : Bool), v24 = .bool x24_5 ∧ Aside0 (wharflaw05_CrcBursts.j0 kq a0 a1 a2 a3 a4 x24_5 = some r) ∧ Aside0 (kq ≤ k) ∧ Aside0 (Below w.heap.size w wc))
  case first =>
    have H := HC6.out
    clear HC6
    replace H := Option.bind_eq_some_iff.mp H
    obtain ⟨t350, A70, H⟩ := H
    replace H : (if t350 = true then (wharflaw05_CrcBursts.j0 k a0 a1 a2 a3 a4 (a3 == 0)) else (wharflaw05_CrcBursts.j0 k a0 a1 a2 a3 a4 true)) = some r := H
    have A7 := Aside0.mk A70
    clear A70
    by_cases c8 : t350 = true
    · subst c8
      have H1 : (wharflaw05_CrcBursts.j0 k a0 a1 a2 a3 a4 (a3 == 0)) = some r := by rw [if_pos rfl] at H; exact H
      clear H
      have H := H1
      clear H1
      have H' := Aside0.mk H
      clear H
      go_wp2_with (first | ((with_reducible refine gate_callee (f := 8) rfl ?_); refine goesL_ (some 19) rfl rfl Try.func8 (by kernel_rfl) rfl #[] rfl (by (try simp only [List.map_toArray, List.map_cons, List.map_nil]); first | done | rfl | (simp only [List.length_drop, List.length_take]; rfl)) ?_; (with_reducible refine (wharflaw05_awake.calls  true _ A7.out).mono ?_); rintro e w9 ⟨rfl, hb⟩; refine ⟨_, rfl, ?_⟩; have n0_ := Aside0.mk (below_step (by repeat (first | (with_reducible first | exact HB.out | apply below_alloc | apply pw_below_drewN | apply below_drew1) | exact HB.out)) hb); clear HB; have HB := n0_; clear n0_; (try clear hb); (try clear hb2); (try clear hk); (try clear hi)))
      go_meet
      case rel => exact ⟨_, ((a3 == 0)), (by first | rfl | (simp; done) | (simp [*]; done)), H', ⟨by first | omega | exact Nat.le_refl _⟩, ⟨by repeat (first | (with_reducible first | exact HB.out | apply below_alloc | apply pw_below_drewN | apply below_drew1) | exact HB.out)⟩⟩
    · replace c8 := Bool.eq_false_iff.mpr c8
      subst c8
      have H1 : (wharflaw05_CrcBursts.j0 k a0 a1 a2 a3 a4 true) = some r := by rw [if_neg (show ¬ (false = true) by decide)] at H; exact H
      clear H
      have H := H1
      clear H1
      have H' := Aside0.mk H
      clear H
      go_wp2_with (first | ((with_reducible refine gate_callee (f := 8) rfl ?_); refine goesL_ (some 19) rfl rfl Try.func8 (by kernel_rfl) rfl #[] rfl (by (try simp only [List.map_toArray, List.map_cons, List.map_nil]); first | done | rfl | (simp only [List.length_drop, List.length_take]; rfl)) ?_; (with_reducible refine (wharflaw05_awake.calls  false _ A7.out).mono ?_); rintro e w10 ⟨rfl, hb⟩; refine ⟨_, rfl, ?_⟩; have n0_ := Aside0.mk (below_step (by repeat (first | (with_reducible first | exact HB.out | apply below_alloc | apply pw_below_drewN | apply below_drew1) | exact HB.out)) hb); clear HB; have HB := n0_; clear n0_; (try clear hb); (try clear hb2); (try clear hk); (try clear hi)))
      go_meet
      case rel => exact ⟨_, (true), (by first | rfl | (simp; done) | (simp [*]; done)), H', ⟨by first | omega | exact Nat.le_refl _⟩, ⟨by repeat (first | (with_reducible first | exact HB.out | apply below_alloc | apply pw_below_drewN | apply below_drew1) | exact HB.out)⟩⟩
  case rest =>
    clear HC6
    try clear p2
    try clear c6
    try clear c8
    obtain ⟨kq, x24_5, rfl, HA, HJ5, HB⟩ := hcut
    cases kq with
    | zero => exact absurd HA.out (by simp [wharflaw05_CrcBursts.j0])
    | succ kj5 =>
      have H := HA.out
      clear HA
      simp only [wharflaw05_CrcBursts.j0] at H
      by_cases c11 : x24_5 = true
      · subst c11
        have H1 : ((wharflaw05_awake.f).bind fun t351 => (some t351)) = some r := by rw [if_pos rfl] at H; exact H
        clear H
        have H := H1
        clear H1
        replace H := Option.bind_eq_some_iff.mp H
        obtain ⟨t351, A120, H⟩ := H
        replace H : (some t351) = some r := H
        have A12 := Aside0.mk A120
        clear A120
        obtain rfl := Option.some.inj H
        go_wp2_with (first | ((with_reducible refine gate_callee (f := 8) rfl ?_); refine goesL_ (some 25) rfl rfl Try.func8 (by kernel_rfl) rfl #[] rfl (by (try simp only [List.map_toArray, List.map_cons, List.map_nil]); first | done | rfl | (simp only [List.length_drop, List.length_take]; rfl)) ?_; (with_reducible refine (wharflaw05_awake.calls  t351 _ A12.out).mono ?_); rintro e w13 ⟨rfl, hb⟩; refine ⟨_, rfl, ?_⟩; have n0_ := Aside0.mk (below_step (by repeat (first | (with_reducible first | exact HB.out | apply below_alloc | apply pw_below_drewN | apply below_drew1) | exact HB.out)) hb); clear HB; have HB := n0_; clear n0_; (try clear hb); (try clear hb2); (try clear hk); (try clear hi)))
        go_ret
        exact ⟨by first | rfl | (simp [errW_none, errW_some] <;> rfl) | (simp [*, errW_none, errW_some] <;> rfl), by repeat (first | (with_reducible first | exact HB.out | apply below_alloc | apply pw_below_drewN | apply below_drew1) | exact HB.out)⟩
      · replace c11 := Bool.eq_false_iff.mpr c11
        subst c11
        have H1 : ((wharfref05_Spread.f kj5 a0 (wrap64 (12 + (Int.tmod (wrap64 (a1)) 3000)))).bind fun t352 => ((wharfref05_Seal.f kj5 t352).bind fun t355 => ((some (([0, 64, 96] : List Int) : List Int)).bind fun y358 => (if 0 ≤ (Int.tmod (wrap64 (a4)) 3) then (if (Int.tmod (wrap64 (a4)) 3) < (y358.length : Int) then ((some (([64, 96, wrap64 (8 * (wrap64 (12 + (Int.tmod (wrap64 (a1)) 3000))))] : List Int) : List Int)).bind fun y362 => (if (Int.tmod (wrap64 (a4)) 3) < (y362.length : Int) then (if (rd y362 (Int.tmod (wrap64 (a4)) 3)) = (rd y358 (Int.tmod (wrap64 (a4)) 3)) then ((crc_Sealed.f kj5 t355).bind fun t366 => (some t366)) else (if (wrap64 ((rd y362 (Int.tmod (wrap64 (a4)) 3)) - (rd y358 (Int.tmod (wrap64 (a4)) 3)))) = 0 then (none) else ((some (([] : List Int) : List Int)).bind fun y367 => (if y367.length + t355.length < 140737488355328 then (wharflaw05_CrcBursts.l0 kj5 a3 t355 (rd y362 (Int.tmod (wrap64 (a4)) 3)) (wrap64 ((rd y358 (Int.tmod (wrap64 (a4)) 3)) + (Int.tmod (wrap64 (a2)) (wrap64 ((rd y362 (Int.tmod (wrap64 (a4)) 3)) - (rd y358 (Int.tmod (wrap64 (a4)) 3))))))) (y367 ++ t355) true 0) else (none))))) else (none))) else (none)) else (none))))) = some r := by rw [if_neg (show ¬ (false = true) by decide)] at H; exact H
        clear H
        have H := H1
        clear H1
        replace H := Option.bind_eq_some_iff.mp H
        obtain ⟨t352, A140, H⟩ := H
        replace H : ((wharfref05_Seal.f kj5 t352).bind fun t355 => ((some (([0, 64, 96] : List Int) : List Int)).bind fun y358 => (if 0 ≤ (Int.tmod (wrap64 (a4)) 3) then (if (Int.tmod (wrap64 (a4)) 3) < (y358.length : Int) then ((some (([64, 96, wrap64 (8 * (wrap64 (12 + (Int.tmod (wrap64 (a1)) 3000))))] : List Int) : List Int)).bind fun y362 => (if (Int.tmod (wrap64 (a4)) 3) < (y362.length : Int) then (if (rd y362 (Int.tmod (wrap64 (a4)) 3)) = (rd y358 (Int.tmod (wrap64 (a4)) 3)) then ((crc_Sealed.f kj5 t355).bind fun t366 => (some t366)) else (if (wrap64 ((rd y362 (Int.tmod (wrap64 (a4)) 3)) - (rd y358 (Int.tmod (wrap64 (a4)) 3)))) = 0 then (none) else ((some (([] : List Int) : List Int)).bind fun y367 => (if y367.length + t355.length < 140737488355328 then (wharflaw05_CrcBursts.l0 kj5 a3 t355 (rd y362 (Int.tmod (wrap64 (a4)) 3)) (wrap64 ((rd y358 (Int.tmod (wrap64 (a4)) 3)) + (Int.tmod (wrap64 (a2)) (wrap64 ((rd y362 (Int.tmod (wrap64 (a4)) 3)) - (rd y358 (Int.tmod (wrap64 (a4)) 3))))))) (y367 ++ t355) true 0) else (none))))) else (none))) else (none)) else (none)))) = some r := H
        have A14 := Aside0.mk A140
        clear A140
        replace H := Option.bind_eq_some_iff.mp H
        obtain ⟨t355, A150, H⟩ := H
        replace H : ((some (([0, 64, 96] : List Int) : List Int)).bind fun y358 => (if 0 ≤ (Int.tmod (wrap64 (a4)) 3) then (if (Int.tmod (wrap64 (a4)) 3) < (y358.length : Int) then ((some (([64, 96, wrap64 (8 * (wrap64 (12 + (Int.tmod (wrap64 (a1)) 3000))))] : List Int) : List Int)).bind fun y362 => (if (Int.tmod (wrap64 (a4)) 3) < (y362.length : Int) then (if (rd y362 (Int.tmod (wrap64 (a4)) 3)) = (rd y358 (Int.tmod (wrap64 (a4)) 3)) then ((crc_Sealed.f kj5 t355).bind fun t366 => (some t366)) else (if (wrap64 ((rd y362 (Int.tmod (wrap64 (a4)) 3)) - (rd y358 (Int.tmod (wrap64 (a4)) 3)))) = 0 then (none) else ((some (([] : List Int) : List Int)).bind fun y367 => (if y367.length + t355.length < 140737488355328 then (wharflaw05_CrcBursts.l0 kj5 a3 t355 (rd y362 (Int.tmod (wrap64 (a4)) 3)) (wrap64 ((rd y358 (Int.tmod (wrap64 (a4)) 3)) + (Int.tmod (wrap64 (a2)) (wrap64 ((rd y362 (Int.tmod (wrap64 (a4)) 3)) - (rd y358 (Int.tmod (wrap64 (a4)) 3))))))) (y367 ++ t355) true 0) else (none))))) else (none))) else (none)) else (none))) = some r := H
        have A15 := Aside0.mk A150
        clear A150
        obtain ⟨y358, hy358⟩ : ∃ y_ : List Int, y_ = (([0, 64, 96] : List Int)) := ⟨_, rfl⟩
        replace H : (if 0 ≤ (Int.tmod (wrap64 (a4)) 3) then (if (Int.tmod (wrap64 (a4)) 3) < (y358.length : Int) then ((some (([64, 96, wrap64 (8 * (wrap64 (12 + (Int.tmod (wrap64 (a1)) 3000))))] : List Int) : List Int)).bind fun y362 => (if (Int.tmod (wrap64 (a4)) 3) < (y362.length : Int) then (if (rd y362 (Int.tmod (wrap64 (a4)) 3)) = (rd y358 (Int.tmod (wrap64 (a4)) 3)) then ((crc_Sealed.f kj5 t355).bind fun t366 => (some t366)) else (if (wrap64 ((rd y362 (Int.tmod (wrap64 (a4)) 3)) - (rd y358 (Int.tmod (wrap64 (a4)) 3)))) = 0 then (none) else ((some (([] : List Int) : List Int)).bind fun y367 => (if y367.length + t355.length < 140737488355328 then (wharflaw05_CrcBursts.l0 kj5 a3 t355 (rd y362 (Int.tmod (wrap64 (a4)) 3)) (wrap64 ((rd y358 (Int.tmod (wrap64 (a4)) 3)) + (Int.tmod (wrap64 (a2)) (wrap64 ((rd y362 (Int.tmod (wrap64 (a4)) 3)) - (rd y358 (Int.tmod (wrap64 (a4)) 3))))))) (y367 ++ t355) true 0) else (none))))) else (none))) else (none)) else (none)) = some r := by first | (rw [hy358]; with_reducible exact H) | (have H2_ := (Option.bind_some _ _).symm.trans H; rw [hy358]; with_reducible exact H2_) | (have H2_ := (Option.bind_some _ _).symm.trans H; with_reducible exact H2_) | with_reducible exact H | (rw [hy358]; exact H) | exact H
        have Ny358 := Aside0.mk hy358
        clear hy358
        obtain ⟨ji16, hji16⟩ : ∃ j_ : Int, (Int.tmod (wrap64 (a4)) 3) = j_ := ⟨_, rfl⟩
        replace H : (if 0 ≤ (ji16) then (if (ji16) < (y358.length : Int) then ((some (([64, 96, wrap64 (8 * (wrap64 (12 + (Int.tmod (wrap64 (a1)) 3000))))] : List Int) : List Int)).bind fun y362 => (if (ji16) < (y362.length : Int) then (if (rd y362 (ji16)) = (rd y358 (ji16)) then ((crc_Sealed.f kj5 t355).bind fun t366 => (some t366)) else (if (wrap64 ((rd y362 (ji16)) - (rd y358 (ji16)))) = 0 then (none) else ((some (([] : List Int) : List Int)).bind fun y367 => (if y367.length + t355.length < 140737488355328 then (wharflaw05_CrcBursts.l0 kj5 a3 t355 (rd y362 (ji16)) (wrap64 ((rd y358 (ji16)) + (Int.tmod (wrap64 (a2)) (wrap64 ((rd y362 (ji16)) - (rd y358 (ji16))))))) (y367 ++ t355) true 0) else (none))))) else (none))) else (none)) else (none)) = some r := by first | (rw [hji16] at H; exact H) | (simp only [hji16] at H ⊢; exact H)
        (try rw [hji16] at A14)
        (try rw [hji16] at A15)
        by_cases c17 : 0 ≤ (ji16)
        · rw [if_pos c17] at H
          have c17b0 : decide (0 ≤ (ji16)) = true := decide_eq_true c17
          clear c17
          by_cases c18 : (ji16) < (y358.length : Int)
          · rw [if_pos c18] at H
            have c18b0 : decide ((ji16) < (y358.length : Int)) = true := decide_eq_true c18
            clear c18
            obtain ⟨y362, hy362⟩ : ∃ y_ : List Int, y_ = (([64, 96, wrap64 (8 * (wrap64 (12 + (Int.tmod (wrap64 (a1)) 3000))))] : List Int)) := ⟨_, rfl⟩
            replace H : (if (ji16) < (y362.length : Int) then (if (rd y362 (ji16)) = (rd y358 (ji16)) then ((crc_Sealed.f kj5 t355).bind fun t366 => (some t366)) else (if (wrap64 ((rd y362 (ji16)) - (rd y358 (ji16)))) = 0 then (none) else ((some (([] : List Int) : List Int)).bind fun y367 => (if y367.length + t355.length < 140737488355328 then (wharflaw05_CrcBursts.l0 kj5 a3 t355 (rd y362 (ji16)) (wrap64 ((rd y358 (ji16)) + (Int.tmod (wrap64 (a2)) (wrap64 ((rd y362 (ji16)) - (rd y358 (ji16))))))) (y367 ++ t355) true 0) else (none))))) else (none)) = some r := by first | (rw [hy362]; with_reducible exact H) | (have H2_ := (Option.bind_some _ _).symm.trans H; rw [hy362]; with_reducible exact H2_) | (have H2_ := (Option.bind_some _ _).symm.trans H; with_reducible exact H2_) | with_reducible exact H | (rw [hy362]; exact H) | exact H
            have Ny362 := Aside0.mk hy362
            clear hy362
            by_cases c19 : (ji16) < (y362.length : Int)
            · rw [if_pos c19] at H
              have c19b0 : decide ((ji16) < (y362.length : Int)) = true := decide_eq_true c19
              clear c19
              by_cases c20 : (rd y362 (ji16)) = (rd y358 (ji16))
              · rw [if_pos c20] at H
                have c20b0 : ((rd y362 (ji16)) == (rd y358 (ji16))) = true := beq_iff_eq.mpr c20
                have c20b1 : ((rd y362 (ji16)) != (rd y358 (ji16))) = false := bne_eq_false_iff_eq.mpr c20
                clear c20
                replace H := Option.bind_eq_some_iff.mp H
                obtain ⟨t366, A210, H⟩ := H
                replace H : (some t366) = some r := H
                have A21 := Aside0.mk A210
                clear A210
                obtain rfl := Option.some.inj H
                go_wp2_with (first | ((with_reducible refine gate_callee (f := 21) rfl ?_); refine goesL_ (some 32) rfl rfl Try.func21 (by kernel_rfl) rfl #[.int .u64 a0, .int .i64 (wrap64 (12 + (Int.tmod (wrap64 (a1)) 3000)))] rfl (by (try simp only [List.map_toArray, List.map_cons, List.map_nil]); first | done | rfl | (simp only [List.length_drop, List.length_take]; rfl)) ?_; (with_reducible refine (wharfref05_Spread.calls kj5 a0 (wrap64 (12 + (Int.tmod (wrap64 (a1)) 3000))) t352 _ A14.out).mono ?_); rintro e w22 ⟨v353, rfl, ho0, hb⟩; refine ⟨_, rfl, ?_⟩; have n0_ := Aside0.mk (Kd.R_lower ho0 (below_size (by repeat (first | (with_reducible first | exact HB.out | apply below_alloc | apply pw_below_drewN | apply below_drew1) | exact HB.out)))); have n1_ := Aside0.mk (below_step (by repeat (first | (with_reducible first | exact HB.out | apply below_alloc | apply pw_below_drewN | apply below_drew1) | exact HB.out)) hb); clear HB; have HO354 := n0_; have HB := n1_; clear n0_ n1_; (try clear hb); (try clear hb2); (try clear hk); (try clear hi); (try clear ho0); obtain ⟨Ao23, co23, eo23⟩ := Kd.R_slice HO354.out; subst eo23) | ((with_reducible refine gate_callee (f := 20) rfl ?_); refine goesL_ (some 33) rfl rfl Try.func20 (by kernel_rfl) rfl #[.slice Ao23 t352.length co23] rfl (by (try simp only [List.map_toArray, List.map_cons, List.map_nil]); first | done | rfl | (simp only [List.length_drop, List.length_take]; rfl)) ?_; (with_reducible refine (wharfref05_Seal.calls kj5 _ _ t352 t355 _ ?side1 ?side2 A15.out).mono ?_); (case side1 => repeat (first | exact (Kd.R_reads' HO354.out).2.2 | (with_reducible refine Kd.C_alloc ?_ _) | (with_reducible refine Kd.C_drewN ?_ _) | (with_reducible refine Kd.C_drew ?_))); (case side2 => exact (Kd.R_reads' HO354.out).2.1); rintro e w24 ⟨v356, rfl, ho0, hb⟩; refine ⟨_, rfl, ?_⟩; have n0_ := Aside0.mk (Kd.R_elder' (by (with_reducible repeat (first | apply Kd.R_alloc | apply Kd.R_drewN | apply Kd.R_drew)); exact HO354.out) (Kd.R_base ho0) hb); have n1_ := Aside0.mk (Kd.R_lower (Kd.R_new' ho0 (Kd.R_lt (by (with_reducible repeat (first | apply Kd.R_alloc | apply Kd.R_drewN | apply Kd.R_drew)); exact HO354.out))) (below_size (by repeat (first | (with_reducible first | exact HB.out | apply below_alloc | apply pw_below_drewN | apply below_drew1) | exact HB.out)))); have n2_ := Aside0.mk (below_step (by repeat (first | (with_reducible first | exact HB.out | apply below_alloc | apply pw_below_drewN | apply below_drew1) | exact HB.out)) hb); clear HO354; clear HB; have HO354 := n0_; have HO357 := n1_; have HB := n2_; clear n0_ n1_ n2_; (try clear hb); (try clear hb2); (try clear hk); (try clear hi); (try clear ho0)) | ((with_reducible refine gate_dst (N := 34) rfl ?_); refine Kd.R_lit (Kd.int .i64) _ 3 ?hg (N := 34) ?hd (xs := ([0, 64, 96] : List Int)) (inner := [.int .i64 0, .int .i64 64, .int .i64 96]) (ok := fun _ => True) (okp := fun _ => True) ?hr ?hp (fun _ hk => hk) trivial (Below.refl _ _) (Nat.le_refl _) (by simp) ?_; (case hd => rfl); (case hg => rfl); (case hr => first | (go_simp; done) | (go_simp; rfl)); (case hp => exact (Reps.one (show Kd.M (Kd.int .i64) _ _ _ 0 [.int .i64 0] from rfl) (Reps.one (show Kd.M (Kd.int .i64) _ _ _ 64 [.int .i64 64] from rfl) (Reps.one (show Kd.M (Kd.int .i64) _ _ _ 96 [.int .i64 96] from rfl) (Reps.none _ _))))); intro v359 w25 ho26 hb hg_ hnew_; clear hg_ hnew_; (first | rw [← Ny358.out] at ho26 | (simp only [Int.reduceToNat] at ho26; rw [← Ny358.out] at ho26)); have n0_ := Aside0.mk (Kd.R_below (by (with_reducible repeat (first | apply Kd.R_alloc | apply Kd.R_drewN | apply Kd.R_drew)); exact HO354.out) hb); have n1_ := Aside0.mk (Kd.R_below (by (with_reducible repeat (first | apply Kd.R_alloc | apply Kd.R_drewN | apply Kd.R_drew)); exact HO357.out) hb); have n2_ := Aside0.mk (Kd.R_lower ho26 (below_size (by repeat (first | (with_reducible first | exact HB.out | apply below_alloc | apply pw_below_drewN | apply below_drew1) | exact HB.out)))); have n3_ := Aside0.mk (below_step (by repeat (first | (with_reducible first | exact HB.out | apply below_alloc | apply pw_below_drewN | apply below_drew1) | exact HB.out)) hb); clear HO354; clear HO357; clear HB; have HO354 := n0_; have HO357 := n1_; have HO360 := n2_; have HB := n3_; clear n0_ n1_ n2_ n3_; clear hb ho26; obtain ⟨Ao27, co27, eo27⟩ := Kd.R_slice HO360.out; subst eo27; have p361 : 0 ≤ ((ji16) : Int) := of_decide_eq_true (by first | (with_reducible assumption) | assumption); have q361 : (ji16) < (y358.length : Int) := of_decide_eq_true (by first | (with_reducible assumption) | assumption); obtain ⟨ad361, e361, hx361_0⟩ := Kd.at_int (Kd.R_reads' HO360.out).2.2 (ji16) p361 q361; cases e361; replace p361 := eq_true p361; replace q361 := eq_true q361) | ((with_reducible refine gate_dst (N := 42) rfl ?_); refine Kd.R_lit (Kd.int .i64) _ 3 ?hg (N := 42) ?hd (xs := ([64, 96, wrap64 (8 * (wrap64 (12 + (Int.tmod (wrap64 (a1)) 3000))))] : List Int)) (inner := [.int .i64 64, .int .i64 96, .int .i64 (wrap64 (8 * (wrap64 (12 + (Int.tmod (wrap64 (a1)) 3000)))))]) (ok := fun _ => True) (okp := fun _ => True) ?hr ?hp (fun _ hk => hk) trivial (Below.refl _ _) (Nat.le_refl _) (by simp) ?_; (case hd => rfl); (case hg => rfl); (case hr => first | (go_simp; done) | (go_simp; rfl)); (case hp => exact (Reps.one (show Kd.M (Kd.int .i64) _ _ _ 64 [.int .i64 64] from rfl) (Reps.one (show Kd.M (Kd.int .i64) _ _ _ 96 [.int .i64 96] from rfl) (Reps.one (show Kd.M (Kd.int .i64) _ _ _ (wrap64 (8 * (wrap64 (12 + (Int.tmod (wrap64 (a1)) 3000))))) [.int .i64 (wrap64 (8 * (wrap64 (12 + (Int.tmod (wrap64 (a1)) 3000)))))] from rfl) (Reps.none _ _))))); intro v363 w28 ho29 hb hg_ hnew_; clear hg_ hnew_; (first | rw [← Ny362.out] at ho29 | (simp only [Int.reduceToNat] at ho29; rw [← Ny362.out] at ho29)); have n0_ := Aside0.mk (Kd.R_below (by (with_reducible repeat (first | apply Kd.R_alloc | apply Kd.R_drewN | apply Kd.R_drew)); exact HO354.out) hb); have n1_ := Aside0.mk (Kd.R_below (by (with_reducible repeat (first | apply Kd.R_alloc | apply Kd.R_drewN | apply Kd.R_drew)); exact HO357.out) hb); have n2_ := Aside0.mk (Kd.R_elder' (by (with_reducible repeat (first | apply Kd.R_alloc | apply Kd.R_drewN | apply Kd.R_drew)); exact HO360.out) (Kd.R_base ho29) hb); have n3_ := Aside0.mk (Kd.R_lower (Kd.R_new' ho29 (Kd.R_lt (by (with_reducible repeat (first | apply Kd.R_alloc | apply Kd.R_drewN | apply Kd.R_drew)); exact HO360.out))) (below_size (by repeat (first | (with_reducible first | exact HB.out | apply below_alloc | apply pw_below_drewN | apply below_drew1) | exact HB.out)))); have n4_ := Aside0.mk (below_step (by repeat (first | (with_reducible first | exact HB.out | apply below_alloc | apply pw_below_drewN | apply below_drew1) | exact HB.out)) hb); clear HO354; clear HO357; clear HO360; clear HB; have HO354 := n0_; have HO357 := n1_; have HO360 := n2_; have HO364 := n3_; have HB := n4_; clear n0_ n1_ n2_ n3_ n4_; clear hb ho29; obtain ⟨Ao30, co30, eo30⟩ := Kd.R_slice HO364.out; subst eo30; have p365 : 0 ≤ ((ji16) : Int) := of_decide_eq_true (by first | (with_reducible assumption) | assumption); have q365 : (ji16) < (y362.length : Int) := of_decide_eq_true (by first | (with_reducible assumption) | assumption); obtain ⟨ad365, e365, hx365_0⟩ := Kd.at_int (Kd.R_reads' HO364.out).2.2 (ji16) p365 q365; cases e365; replace p365 := eq_true p365; replace q365 := eq_true q365; obtain ⟨Ao31, co31, eo31⟩ := Kd.R_slice HO357.out; subst eo31) | ((with_reducible refine gate_callee (f := 16) rfl ?_); refine goesL_ (some 52) rfl rfl Try.func16 (by kernel_rfl) rfl #[.slice Ao31 t355.length co31] rfl (by (try simp only [List.map_toArray, List.map_cons, List.map_nil]); first | done | rfl | (simp only [List.length_drop, List.length_take]; rfl)) ?_; (with_reducible refine (crc_Sealed.calls kj5 _ _ t355 t366 _ ?side1 ?side2 A21.out).mono ?_); (case side1 => repeat (first | exact (Kd.R_reads' HO357.out).2.2 | (with_reducible refine Kd.C_alloc ?_ _) | (with_reducible refine Kd.C_drewN ?_ _) | (with_reducible refine Kd.C_drew ?_))); (case side2 => exact (Kd.R_reads' HO357.out).2.1); rintro e w32 ⟨rfl, hb⟩; refine ⟨_, rfl, ?_⟩; have n0_ := Aside0.mk (Kd.R_below (by (with_reducible repeat (first | apply Kd.R_alloc | apply Kd.R_drewN | apply Kd.R_drew)); exact HO354.out) hb); have n1_ := Aside0.mk (Kd.R_below (by (with_reducible repeat (first | apply Kd.R_alloc | apply Kd.R_drewN | apply Kd.R_drew)); exact HO357.out) hb); have n2_ := Aside0.mk (Kd.R_below (by (with_reducible repeat (first | apply Kd.R_alloc | apply Kd.R_drewN | apply Kd.R_drew)); exact HO360.out) hb); have n3_ := Aside0.mk (Kd.R_below (by (with_reducible repeat (first | apply Kd.R_alloc | apply Kd.R_drewN | apply Kd.R_drew)); exact HO364.out) hb); have n4_ := Aside0.mk (below_step (by repeat (first | (with_reducible first | exact HB.out | apply below_alloc | apply pw_below_drewN | apply below_drew1) | exact HB.out)) hb); clear HO354; clear HO357; clear HO360; clear HO364; clear HB; have HO354 := n0_; have HO357 := n1_; have HO360 := n2_; have HO364 := n3_; have HB := n4_; clear n0_ n1_ n2_ n3_ n4_; (try clear hb); (try clear hb2); (try clear hk); (try clear hi)))
                go_ret
                exact ⟨by first | rfl | (simp [errW_none, errW_some] <;> rfl) | (simp only [← hji16]; first | rfl | (simp [errW_none, errW_some] <;> rfl)) | (simp [*, errW_none, errW_some] <;> rfl), by repeat (first | (with_reducible first | exact HB.out | apply below_alloc | apply pw_below_drewN | apply below_drew1) | exact HB.out)⟩
              · rw [if_neg c20] at H
                have c20b0 : ((rd y362 (ji16)) == (rd y358 (ji16))) = false := beq_eq_false_iff_ne.mpr c20
                have c20b1 : ((rd y362 (ji16)) != (rd y358 (ji16))) = true := bne_iff_ne.mpr c20
                by_cases c33 : (wrap64 ((rd y362 (ji16)) - (rd y358 (ji16)))) = 0
                · rw [if_pos c33] at H
                  exact absurd H (by simp)
                · rw [if_neg c33] at H
                  have c33b0 : ((wrap64 ((rd y362 (ji16)) - (rd y358 (ji16)))) == 0) = false := beq_eq_false_iff_ne.mpr c33
                  have c33b1 : ((wrap64 ((rd y362 (ji16)) - (rd y358 (ji16)))) != 0) = true := bne_iff_ne.mpr c33
                  obtain ⟨y367, hy367⟩ : ∃ y_ : List Int, y_ = (([] : List Int)) := ⟨_, rfl⟩
                  replace H : (if y367.length + t355.length < 140737488355328 then (wharflaw05_CrcBursts.l0 kj5 a3 t355 (rd y362 (ji16)) (wrap64 ((rd y358 (ji16)) + (Int.tmod (wrap64 (a2)) (wrap64 ((rd y362 (ji16)) - (rd y358 (ji16))))))) (y367 ++ t355) true 0) else (none)) = some r := by first | (rw [hy367]; with_reducible exact H) | (have H2_ := (Option.bind_some _ _).symm.trans H; rw [hy367]; with_reducible exact H2_) | (have H2_ := (Option.bind_some _ _).symm.trans H; with_reducible exact H2_) | with_reducible exact H | (rw [hy367]; exact H) | exact H
                  have Ny367 := Aside0.mk hy367
                  clear hy367
                  by_cases c34 : y367.length + t355.length < 140737488355328
                  · rw [if_pos c34] at H
                    have LMc34 := Aside0.mk c34
                    clear c34
                    obtain ⟨y370, hy370⟩ : ∃ y_ : List Int, y_ = (y367 ++ t355) := ⟨_, rfl⟩
                    replace H : (wharflaw05_CrcBursts.l0 kj5 a3 t355 (rd y362 (ji16)) (wrap64 ((rd y358 (ji16)) + (Int.tmod (wrap64 (a2)) (wrap64 ((rd y362 (ji16)) - (rd y358 (ji16))))))) y370 true 0) = some r := by first | (rw [hy370]; with_reducible exact H) | (have H2_ := (Option.bind_some _ _).symm.trans H; rw [hy370]; with_reducible exact H2_) | (have H2_ := (Option.bind_some _ _).symm.trans H; with_reducible exact H2_) | with_reducible exact H | (rw [hy370]; exact H) | exact H
                    have Ny370 := Aside0.mk hy370
                    clear hy370
                    have H' := Aside0.mk H
                    clear H
                    go_wp2_with (first | ((with_reducible refine gate_callee (f := 21) rfl ?_); refine goesL_ (some 32) rfl rfl Try.func21 (by kernel_rfl) rfl #[.int .u64 a0, .int .i64 (wrap64 (12 + (Int.tmod (wrap64 (a1)) 3000)))] rfl (by (try simp only [List.map_toArray, List.map_cons, List.map_nil]); first | done | rfl | (simp only [List.length_drop, List.length_take]; rfl)) ?_; (with_reducible refine (wharfref05_Spread.calls kj5 a0 (wrap64 (12 + (Int.tmod (wrap64 (a1)) 3000))) t352 _ A14.out).mono ?_); rintro e w35 ⟨v353, rfl, ho0, hb⟩; refine ⟨_, rfl, ?_⟩; have n0_ := Aside0.mk (Kd.R_lower ho0 (below_size (by repeat (first | (with_reducible first | exact HB.out | apply below_alloc | apply pw_below_drewN | apply below_drew1) | exact HB.out)))); have n1_ := Aside0.mk (below_step (by repeat (first | (with_reducible first | exact HB.out | apply below_alloc | apply pw_below_drewN | apply below_drew1) | exact HB.out)) hb); clear HB; have HO354 := n0_; have HB := n1_; clear n0_ n1_; (try clear hb); (try clear hb2); (try clear hk); (try clear hi); (try clear ho0); obtain ⟨Ao36, co36, eo36⟩ := Kd.R_slice HO354.out; subst eo36) | ((with_reducible refine gate_callee (f := 20) rfl ?_); refine goesL_ (some 33) rfl rfl Try.func20 (by kernel_rfl) rfl #[.slice Ao36 t352.length co36] rfl (by (try simp only [List.map_toArray, List.map_cons, List.map_nil]); first | done | rfl | (simp only [List.length_drop, List.length_take]; rfl)) ?_; (with_reducible refine (wharfref05_Seal.calls kj5 _ _ t352 t355 _ ?side1 ?side2 A15.out).mono ?_); (case side1 => repeat (first | exact (Kd.R_reads' HO354.out).2.2 | (with_reducible refine Kd.C_alloc ?_ _) | (with_reducible refine Kd.C_drewN ?_ _) | (with_reducible refine Kd.C_drew ?_))); (case side2 => exact (Kd.R_reads' HO354.out).2.1); rintro e w37 ⟨v356, rfl, ho0, hb⟩; refine ⟨_, rfl, ?_⟩; have n0_ := Aside0.mk (Kd.R_elder' (by (with_reducible repeat (first | apply Kd.R_alloc | apply Kd.R_drewN | apply Kd.R_drew)); exact HO354.out) (Kd.R_base ho0) hb); have n1_ := Aside0.mk (Kd.R_lower (Kd.R_new' ho0 (Kd.R_lt (by (with_reducible repeat (first | apply Kd.R_alloc | apply Kd.R_drewN | apply Kd.R_drew)); exact HO354.out))) (below_size (by repeat (first | (with_reducible first | exact HB.out | apply below_alloc | apply pw_below_drewN | apply below_drew1) | exact HB.out)))); have n2_ := Aside0.mk (below_step (by repeat (first | (with_reducible first | exact HB.out | apply below_alloc | apply pw_below_drewN | apply below_drew1) | exact HB.out)) hb); clear HO354; clear HB; have HO354 := n0_; have HO357 := n1_; have HB := n2_; clear n0_ n1_ n2_; (try clear hb); (try clear hb2); (try clear hk); (try clear hi); (try clear ho0)) | ((with_reducible refine gate_dst (N := 34) rfl ?_); refine Kd.R_lit (Kd.int .i64) _ 3 ?hg (N := 34) ?hd (xs := ([0, 64, 96] : List Int)) (inner := [.int .i64 0, .int .i64 64, .int .i64 96]) (ok := fun _ => True) (okp := fun _ => True) ?hr ?hp (fun _ hk => hk) trivial (Below.refl _ _) (Nat.le_refl _) (by simp) ?_; (case hd => rfl); (case hg => rfl); (case hr => first | (go_simp; done) | (go_simp; rfl)); (case hp => exact (Reps.one (show Kd.M (Kd.int .i64) _ _ _ 0 [.int .i64 0] from rfl) (Reps.one (show Kd.M (Kd.int .i64) _ _ _ 64 [.int .i64 64] from rfl) (Reps.one (show Kd.M (Kd.int .i64) _ _ _ 96 [.int .i64 96] from rfl) (Reps.none _ _))))); intro v359 w38 ho39 hb hg_ hnew_; clear hg_ hnew_; (first | rw [← Ny358.out] at ho39 | (simp only [Int.reduceToNat] at ho39; rw [← Ny358.out] at ho39)); have n0_ := Aside0.mk (Kd.R_below (by (with_reducible repeat (first | apply Kd.R_alloc | apply Kd.R_drewN | apply Kd.R_drew)); exact HO354.out) hb); have n1_ := Aside0.mk (Kd.R_below (by (with_reducible repeat (first | apply Kd.R_alloc | apply Kd.R_drewN | apply Kd.R_drew)); exact HO357.out) hb); have n2_ := Aside0.mk (Kd.R_lower ho39 (below_size (by repeat (first | (with_reducible first | exact HB.out | apply below_alloc | apply pw_below_drewN | apply below_drew1) | exact HB.out)))); have n3_ := Aside0.mk (below_step (by repeat (first | (with_reducible first | exact HB.out | apply below_alloc | apply pw_below_drewN | apply below_drew1) | exact HB.out)) hb); clear HO354; clear HO357; clear HB; have HO354 := n0_; have HO357 := n1_; have HO360 := n2_; have HB := n3_; clear n0_ n1_ n2_ n3_; clear hb ho39; obtain ⟨Ao40, co40, eo40⟩ := Kd.R_slice HO360.out; subst eo40; have p361 : 0 ≤ ((ji16) : Int) := of_decide_eq_true (by first | (with_reducible assumption) | assumption); have q361 : (ji16) < (y358.length : Int) := of_decide_eq_true (by first | (with_reducible assumption) | assumption); obtain ⟨ad361, e361, hx361_0⟩ := Kd.at_int (Kd.R_reads' HO360.out).2.2 (ji16) p361 q361; cases e361; replace p361 := eq_true p361; replace q361 := eq_true q361) | ((with_reducible refine gate_dst (N := 42) rfl ?_); refine Kd.R_lit (Kd.int .i64) _ 3 ?hg (N := 42) ?hd (xs := ([64, 96, wrap64 (8 * (wrap64 (12 + (Int.tmod (wrap64 (a1)) 3000))))] : List Int)) (inner := [.int .i64 64, .int .i64 96, .int .i64 (wrap64 (8 * (wrap64 (12 + (Int.tmod (wrap64 (a1)) 3000)))))]) (ok := fun _ => True) (okp := fun _ => True) ?hr ?hp (fun _ hk => hk) trivial (Below.refl _ _) (Nat.le_refl _) (by simp) ?_; (case hd => rfl); (case hg => rfl); (case hr => first | (go_simp; done) | (go_simp; rfl)); (case hp => exact (Reps.one (show Kd.M (Kd.int .i64) _ _ _ 64 [.int .i64 64] from rfl) (Reps.one (show Kd.M (Kd.int .i64) _ _ _ 96 [.int .i64 96] from rfl) (Reps.one (show Kd.M (Kd.int .i64) _ _ _ (wrap64 (8 * (wrap64 (12 + (Int.tmod (wrap64 (a1)) 3000))))) [.int .i64 (wrap64 (8 * (wrap64 (12 + (Int.tmod (wrap64 (a1)) 3000)))))] from rfl) (Reps.none _ _))))); intro v363 w41 ho42 hb hg_ hnew_; clear hg_ hnew_; (first | rw [← Ny362.out] at ho42 | (simp only [Int.reduceToNat] at ho42; rw [← Ny362.out] at ho42)); have n0_ := Aside0.mk (Kd.R_below (by (with_reducible repeat (first | apply Kd.R_alloc | apply Kd.R_drewN | apply Kd.R_drew)); exact HO354.out) hb); have n1_ := Aside0.mk (Kd.R_below (by (with_reducible repeat (first | apply Kd.R_alloc | apply Kd.R_drewN | apply Kd.R_drew)); exact HO357.out) hb); have n2_ := Aside0.mk (Kd.R_elder' (by (with_reducible repeat (first | apply Kd.R_alloc | apply Kd.R_drewN | apply Kd.R_drew)); exact HO360.out) (Kd.R_base ho42) hb); have n3_ := Aside0.mk (Kd.R_lower (Kd.R_new' ho42 (Kd.R_lt (by (with_reducible repeat (first | apply Kd.R_alloc | apply Kd.R_drewN | apply Kd.R_drew)); exact HO360.out))) (below_size (by repeat (first | (with_reducible first | exact HB.out | apply below_alloc | apply pw_below_drewN | apply below_drew1) | exact HB.out)))); have n4_ := Aside0.mk (below_step (by repeat (first | (with_reducible first | exact HB.out | apply below_alloc | apply pw_below_drewN | apply below_drew1) | exact HB.out)) hb); clear HO354; clear HO357; clear HO360; clear HB; have HO354 := n0_; have HO357 := n1_; have HO360 := n2_; have HO364 := n3_; have HB := n4_; clear n0_ n1_ n2_ n3_ n4_; clear hb ho42; obtain ⟨Ao43, co43, eo43⟩ := Kd.R_slice HO364.out; subst eo43; have p365 : 0 ≤ ((ji16) : Int) := of_decide_eq_true (by first | (with_reducible assumption) | assumption); have q365 : (ji16) < (y362.length : Int) := of_decide_eq_true (by first | (with_reducible assumption) | assumption); obtain ⟨ad365, e365, hx365_0⟩ := Kd.at_int (Kd.R_reads' HO364.out).2.2 (ji16) p365 q365; cases e365; replace p365 := eq_true p365; replace q365 := eq_true q365) | ((with_reducible refine gate_dst (N := 61) rfl ?_); refine Kd.R_lit (Kd.int .u8) _ 5 ?hg (N := 61) ?hd (xs := ([] : List Int)) (inner := []) (ok := fun _ => True) (okp := fun _ => True) ?hr ?hp (fun _ hk => hk) trivial (Below.refl _ _) (Nat.le_refl _) (by simp) ?_; (case hd => rfl); (case hg => rfl); (case hr => first | (go_simp; done) | (go_simp; rfl)); (case hp => exact (Reps.none _ _)); intro v368 w44 ho45 hb hg_ hnew_; clear hg_ hnew_; (first | rw [← Ny367.out] at ho45 | (simp only [Int.reduceToNat] at ho45; rw [← Ny367.out] at ho45)); have n0_ := Aside0.mk (Kd.R_elder' (by (with_reducible repeat (first | apply Kd.R_alloc | apply Kd.R_drewN | apply Kd.R_drew)); exact HO354.out) (Kd.R_base ho45) hb); have n1_ := Aside0.mk (Kd.R_elder' (by (with_reducible repeat (first | apply Kd.R_alloc | apply Kd.R_drewN | apply Kd.R_drew)); exact HO357.out) (Kd.R_base ho45) hb); have n2_ := Aside0.mk (Kd.R_below (by (with_reducible repeat (first | apply Kd.R_alloc | apply Kd.R_drewN | apply Kd.R_drew)); exact HO360.out) hb); have n3_ := Aside0.mk (Kd.R_below (by (with_reducible repeat (first | apply Kd.R_alloc | apply Kd.R_drewN | apply Kd.R_drew)); exact HO364.out) hb); have n4_ := Aside0.mk (Kd.R_lower (Kd.R_new' (Kd.R_new' ho45 (Kd.R_lt (by (with_reducible repeat (first | apply Kd.R_alloc | apply Kd.R_drewN | apply Kd.R_drew)); exact HO354.out))) (Kd.R_lt (by (with_reducible repeat (first | apply Kd.R_alloc | apply Kd.R_drewN | apply Kd.R_drew)); exact HO357.out))) (below_size (by repeat (first | (with_reducible first | exact HB.out | apply below_alloc | apply pw_below_drewN | apply below_drew1) | exact HB.out)))); have n5_ := Aside0.mk (below_step (by repeat (first | (with_reducible first | exact HB.out | apply below_alloc | apply pw_below_drewN | apply below_drew1) | exact HB.out)) hb); clear HO354; clear HO357; clear HO360; clear HO364; clear HB; have HO354 := n0_; have HO357 := n1_; have HO360 := n2_; have HO364 := n3_; have HO369 := n4_; have HB := n5_; clear n0_ n1_ n2_ n3_ n4_ n5_; clear hb ho45; obtain ⟨Ao47, co47, eo47⟩ := Kd.R_slice HO357.out; subst eo47) | ((with_reducible refine gate_builtin (b := .append) (xs := #[.tmp 61, .tmp 62]) rfl ?_); at_builtin; refine Kd.R_append_rows (Kd.int .u8) (w0 := w) w.heap.size rfl (.tmp 61) (.tmp 62) 24 5 (.int .u8 0) 1 rfl Try.underlying24 info5 rfl (by decide) (by omega) v368 y367 t355 _ _ _ (fun k_ => some k_ ≠ (.slice Ao36 t352.length co36 : Value).ownBlock ∧ some k_ ≠ (.slice Ao47 t355.length co47 : Value).ownBlock) (fun _ => False) rfl rfl ?aO ?aR (fun _ _ h => h) (fun _ h => h.elim) ?aF ?aB ?aS ?aL ?_; (case aR => repeat (first | exact (Kd.R_reads' HO357.out).2.2 | (with_reducible refine Kd.C_alloc ?_ _) | (with_reducible refine Kd.C_drewN ?_ _) | (with_reducible refine Kd.C_drew ?_))); (case aB => exact (by repeat (first | (with_reducible first | exact HB.out | apply below_alloc | apply pw_below_drewN | apply below_drew1) | exact HB.out))); (case aF => exact (fun k_ hk => ⟨Kd.fresh' (Kd.R_lt (by (with_reducible repeat (first | apply Kd.R_alloc | apply Kd.R_drewN | apply Kd.R_drew)); exact HO354.out)) k_ hk, Kd.fresh' (Kd.R_lt (by (with_reducible repeat (first | apply Kd.R_alloc | apply Kd.R_drewN | apply Kd.R_drew)); exact HO357.out)) k_ hk⟩)); (case aO => exact (by (with_reducible repeat (first | apply Kd.R_alloc | apply Kd.R_drewN | apply Kd.R_drew)); exact Kd.R_mono HO369.out (fun _ hk => ⟨hk.1.2, hk.2⟩))); (case aS => exact (below_size (by repeat (first | (with_reducible first | exact HB.out | apply below_alloc | apply pw_below_drewN | apply below_drew1) | exact HB.out)))); (case aL => have := LMc34.out; omega); intro v371 w46 ho hb hg hat; rw [← Ny370.out] at ho; have n0_ := Aside0.mk (Kd.R_after (ok := (fun k_ => some k_ ≠ (.slice Ao47 t355.length co47 : Value).ownBlock)) (by (with_reducible repeat (first | apply Kd.R_alloc | apply Kd.R_drewN | apply Kd.R_drew)); exact Kd.R_mono HO354.out (fun _ hk => ⟨hk.1.2, hk.2⟩)) hg hat); have n1_ := Aside0.mk (Kd.R_after (ok := (fun k_ => some k_ ≠ (.slice Ao36 t352.length co36 : Value).ownBlock)) (by (with_reducible repeat (first | apply Kd.R_alloc | apply Kd.R_drewN | apply Kd.R_drew)); exact Kd.R_mono HO357.out (fun _ hk => ⟨hk.1.2, hk.2⟩)) hg hat); have n2_ := Aside0.mk (Kd.R_over' (by (with_reducible repeat (first | apply Kd.R_alloc | apply Kd.R_drewN | apply Kd.R_drew)); exact HO360.out) (Kd.R_typed (by (with_reducible repeat (first | apply Kd.R_alloc | apply Kd.R_drewN | apply Kd.R_drew)); exact HO369.out)) (by decide) hg); have n3_ := Aside0.mk (Kd.R_over' (by (with_reducible repeat (first | apply Kd.R_alloc | apply Kd.R_drewN | apply Kd.R_drew)); exact HO364.out) (Kd.R_typed (by (with_reducible repeat (first | apply Kd.R_alloc | apply Kd.R_drewN | apply Kd.R_drew)); exact HO369.out)) (by decide) hg); have n4_ := Aside0.mk (hb); have n5_ := Aside0.mk (ho); clear HO354; clear HO357; clear HO360; clear HO364; clear HB; clear HO369; have HO354 := n0_; have HO357 := n1_; have HO360 := n2_; have HO364 := n3_; have HB := n4_; have HO372 := n5_; clear n0_ n1_ n2_ n3_ n4_ n5_; clear ho hb hg hat))
                    go_loopg [16, 17, 18] kj5 (fun kq v16 v17 v18 w' => ∃ (x16_2 : List Int) (x17_2 : Bool) (x18_2 : Int), v17 = .bool x17_2 ∧ v18 = .int .i64 x18_2 ∧ Aside0 (wharflaw05_CrcBursts.l0 kq a3 t355 (rd y362 (ji16)) (wrap64 ((rd y358 (ji16)) + (Int.tmod (wrap64 (a2)) (wrap64 ((rd y362 (ji16)) - (rd y358 (ji16))))))) x16_2 x17_2 x18_2 = some r) ∧ Aside0 (kq ≤ kj5) ∧ Aside0 (Kd.R (Kd.int .u8) 5 w' w.heap.size (fun k_ => some k_ ≠ (v16 : Value).ownBlock) (.slice Ao47 t355.length co47) t355) ∧ Aside0 (Kd.R (Kd.int .u8) 5 w' w.heap.size (fun k_ => some k_ ≠ ((.slice Ao47 t355.length co47) : Value).ownBlock) v16 x16_2) ∧ Aside0 (Below w.heap.size w w'))
                    case atStart => exact ⟨(y370), (true), (0), (by first | rfl | (simp; done) | (simp [*]; done)), (by first | rfl | (simp; done) | (simp [*]; done)), H', ⟨Nat.le_refl _⟩, ⟨by (with_reducible repeat (first | apply Kd.R_alloc | apply Kd.R_drewN | apply Kd.R_drew)); exact Kd.R_mono HO357.out (fun _ hk => hk.2)⟩, ⟨by (with_reducible repeat (first | apply Kd.R_alloc | apply Kd.R_drewN | apply Kd.R_drew)); exact Kd.R_mono HO372.out (fun _ hk => hk.2)⟩, ⟨by repeat (first | (with_reducible first | exact HB.out | apply below_alloc | apply pw_below_drewN | apply below_drew1) | exact HB.out)⟩⟩
                    case round =>
                      clear H'
                      try clear c1
                      try clear c2
                      try clear p2
                      try clear c3
                      try clear p3
                      try clear q3
                      try clear hx3
                      try clear c6
                      try clear p6
                      try clear c8
                      try clear c11
                      try clear c16
                      try clear c17
                      try clear c17b0
                      try clear c18
                      try clear c18b0
                      try clear c19
                      try clear c19b0
                      try clear c20
                      try clear c20b0
                      try clear c20b1
                      try clear c21
                      try clear c33
                      try clear c33b0
                      try clear c33b1
                      try clear c34
                      try clear p36
                      try clear q36
                      try clear hx36
                      try clear hx361_0
                      try clear hx365_0
                      try clear p2
                      try clear p361
                      try clear p365
                      try clear q361
                      try clear q365
                      obtain ⟨x16_2, x17_2, x18_2, rfl, rfl, HA, HK2, HO_12, HO_16, HB⟩ := hrel
                      cases gk with
                      | zero => exact absurd HA.out (by simp [wharflaw05_CrcBursts.l0])
                      | succ k2 =>
                        have H := HA.out
                        clear HA
                        simp only [wharflaw05_CrcBursts.l0] at H
                        have HC48 := Aside0.mk H
                        clear H
                        go_upto_region 13 with (fail)
                        go_cut [72] (fun v72 wc => ∃ (kq : Nat) (x72_47 : Bool), v72 = .bool x72_47 ∧ Aside0 (wharflaw05_CrcBursts.j2 kq a3 t355 (rd y362 (ji16)) (wrap64 ((rd y358 (ji16)) + (Int.tmod (wrap64 (a2)) (wrap64 ((rd y362 (ji16)) - (rd y358 (ji16))))))) x16_2 x17_2 x18_2 x72_47 = some r) ∧ Aside0 (kq ≤ k2) ∧ Aside0 (Kd.R (Kd.int .u8) 5 wc w.heap.size (fun k_ => some k_ ≠ (u16 : Value).ownBlock) (.slice Ao47 t355.length co47) t355) ∧ Aside0 (Kd.R (Kd.int .u8) 5 wc w.heap.size (fun k_ => some k_ ≠ ((.slice Ao47 t355.length co47) : Value).ownBlock) u16 x16_2) ∧ Aside0 (Below w.heap.size w wc))
                        case first =>
                          have H := HC48.out
                          clear HC48
                          by_cases c49 : x18_2 < 32
                          · rw [if_pos c49] at H
                            have c49b0 : decide (x18_2 < 32) = true := decide_eq_true c49
                            clear c49
                            (first | rw [c49b0] | (simp only [i64_w, i32_w]; rw [c49b0]) | skip)
                            have H' := Aside0.mk H
                            clear H
                            go_wp2
                            go_meet
                            case rel => exact ⟨_, (decide ((wrap64 ((wrap64 ((rd y358 (ji16)) + (Int.tmod (wrap64 (a2)) (wrap64 ((rd y362 (ji16)) - (rd y358 (ji16))))))) + x18_2)) < (rd y362 (ji16)))), (by first | rfl | (simp; done) | (simp only [← hji16] <;> (first | rfl | simp)) | (simp [*]; done)), H', ⟨by have := HJ5.out; have := HK2.out; first | omega | exact Nat.le_refl _⟩, ⟨by (with_reducible repeat (first | apply Kd.R_alloc | apply Kd.R_drewN | apply Kd.R_drew)); exact HO_12.out⟩, ⟨by (with_reducible repeat (first | apply Kd.R_alloc | apply Kd.R_drewN | apply Kd.R_drew)); exact HO_16.out⟩, ⟨by repeat (first | (with_reducible first | exact HB.out | apply below_alloc | apply pw_below_drewN | apply below_drew1) | exact HB.out)⟩⟩
                          · rw [if_neg c49] at H
                            have c49b0 : decide (x18_2 < 32) = false := decide_eq_false c49
                            clear c49
                            (first | rw [c49b0] | (simp only [i64_w, i32_w]; rw [c49b0]) | skip)
                            have H' := Aside0.mk H
                            clear H
                            go_wp2
                            go_meet
                            case rel => exact ⟨_, (false), (by first | rfl | (simp; done) | (simp [*]; done)), H', ⟨by have := HJ5.out; have := HK2.out; first | omega | exact Nat.le_refl _⟩, ⟨by (with_reducible repeat (first | apply Kd.R_alloc | apply Kd.R_drewN | apply Kd.R_drew)); exact HO_12.out⟩, ⟨by (with_reducible repeat (first | apply Kd.R_alloc | apply Kd.R_drewN | apply Kd.R_drew)); exact HO_16.out⟩, ⟨by repeat (first | (with_reducible first | exact HB.out | apply below_alloc | apply pw_below_drewN | apply below_drew1) | exact HB.out)⟩⟩
                        case rest =>
                          clear HC48
                          try clear c1
                          try clear c2
                          try clear p2
                          try clear c3
                          try clear p3
                          try clear q3
                          try clear hx3
                          try clear c4
                          try clear c6
                          try clear p6
                          try clear c8
                          try clear c11
                          try clear c16
                          try clear c17
                          try clear c17b0
                          try clear c18
                          try clear c18b0
                          try clear c19
                          try clear c19b0
                          try clear c20
                          try clear c20b0
                          try clear c20b1
                          try clear c21
                          try clear c33
                          try clear c33b0
                          try clear c33b1
                          try clear c34
                          try clear p36
                          try clear q36
                          try clear hx36
                          try clear c49
                          try clear c49b0
                          try clear hx361_0
                          try clear hx365_0
                          try clear p2
                          try clear p3
                          try clear p36
                          try clear p361
                          try clear p365
                          try clear p6
                          try clear q3
                          try clear q36
                          try clear q361
                          try clear q365
                          obtain ⟨kq, x72_47, rfl, HA, HJ47, HO_12, HO_16, HB⟩ := hcut
                          cases kq with
                          | zero => exact absurd HA.out (by simp [wharflaw05_CrcBursts.j2])
                          | succ kj47 =>
                            have H := HA.out
                            clear HA
                            simp only [wharflaw05_CrcBursts.j2] at H
                            by_cases c50 : x72_47 = true
                            · subst c50
                              have H1 : (if 0 ≤ (IntKind.u64.wrap (x18_2)) then (if (Go.bits .and .u32 (shr .u32 a3 (IntKind.u64.wrap (x18_2))) 1) = 1 then ((wharflaw05_flip.f x16_2 (wrap64 ((wrap64 ((rd y358 (ji16)) + (Int.tmod (wrap64 (a2)) (wrap64 ((rd y362 (ji16)) - (rd y358 (ji16))))))) + x18_2))).bind fun t373 => (wharflaw05_CrcBursts.l0 kj47 a3 t355 (rd y362 (ji16)) (wrap64 ((rd y358 (ji16)) + (Int.tmod (wrap64 (a2)) (wrap64 ((rd y362 (ji16)) - (rd y358 (ji16))))))) t373 false (wrap64 (x18_2 + 1)))) else (wharflaw05_CrcBursts.l0 kj47 a3 t355 (rd y362 (ji16)) (wrap64 ((rd y358 (ji16)) + (Int.tmod (wrap64 (a2)) (wrap64 ((rd y362 (ji16)) - (rd y358 (ji16))))))) x16_2 x17_2 (wrap64 (x18_2 + 1)))) else (none)) = some r := by rw [if_pos rfl] at H; exact H
                              clear H
                              have H := H1
                              clear H1
                              obtain ⟨ji51, hji51⟩ : ∃ j_ : Int, (IntKind.u64.wrap (x18_2)) = j_ := ⟨_, rfl⟩
                              replace H : (if 0 ≤ (ji51) then (if (Go.bits .and .u32 (shr .u32 a3 (ji51)) 1) = 1 then ((wharflaw05_flip.f x16_2 (wrap64 ((wrap64 ((rd y358 (ji16)) + (Int.tmod (wrap64 (a2)) (wrap64 ((rd y362 (ji16)) - (rd y358 (ji16))))))) + x18_2))).bind fun t373 => (wharflaw05_CrcBursts.l0 kj47 a3 t355 (rd y362 (ji16)) (wrap64 ((rd y358 (ji16)) + (Int.tmod (wrap64 (a2)) (wrap64 ((rd y362 (ji16)) - (rd y358 (ji16))))))) t373 false (wrap64 (x18_2 + 1)))) else (wharflaw05_CrcBursts.l0 kj47 a3 t355 (rd y362 (ji16)) (wrap64 ((rd y358 (ji16)) + (Int.tmod (wrap64 (a2)) (wrap64 ((rd y362 (ji16)) - (rd y358 (ji16))))))) x16_2 x17_2 (wrap64 (x18_2 + 1)))) else (none)) = some r := by first | (rw [hji51] at H; exact H) | (simp only [hji51] at H ⊢; exact H)
                              by_cases c52 : 0 ≤ (ji51)
                              · rw [if_pos c52] at H
                                have c52b0 := eq_true c52
                                have c52b1 : decide (0 ≤ (ji51)) = true := decide_eq_true c52
                                clear c52
                                obtain ⟨ji53, hji53⟩ : ∃ j_ : Int, (shr .u32 a3 (ji51)) = j_ := ⟨_, rfl⟩
                                replace H : (if (Go.bits .and .u32 (ji53) 1) = 1 then ((wharflaw05_flip.f x16_2 (wrap64 ((wrap64 ((rd y358 (ji16)) + (Int.tmod (wrap64 (a2)) (wrap64 ((rd y362 (ji16)) - (rd y358 (ji16))))))) + x18_2))).bind fun t373 => (wharflaw05_CrcBursts.l0 kj47 a3 t355 (rd y362 (ji16)) (wrap64 ((rd y358 (ji16)) + (Int.tmod (wrap64 (a2)) (wrap64 ((rd y362 (ji16)) - (rd y358 (ji16))))))) t373 false (wrap64 (x18_2 + 1)))) else (wharflaw05_CrcBursts.l0 kj47 a3 t355 (rd y362 (ji16)) (wrap64 ((rd y358 (ji16)) + (Int.tmod (wrap64 (a2)) (wrap64 ((rd y362 (ji16)) - (rd y358 (ji16))))))) x16_2 x17_2 (wrap64 (x18_2 + 1)))) = some r := by first | (rw [hji53] at H; exact H) | (simp only [hji53] at H ⊢; exact H)
                                have hji53_ : (a3 / 2 ^ min (ji51).toNat 32) = ji53 := hji53
                                have hji53z : (ji51) ≤ 32 → (a3 / 2 ^ (ji51).toNat) = ji53 := shr_small hji53
                                by_cases c54 : (Go.bits .and .u32 (ji53) 1) = 1
                                · rw [if_pos c54] at H
                                  have c54b0 : ((Go.bits .and .u32 (ji53) 1) == 1) = true := beq_iff_eq.mpr c54
                                  have c54b1 : ((Go.bits .and .u32 (ji53) 1) != 1) = false := bne_eq_false_iff_eq.mpr c54
                                  clear c54
                                  replace H := Option.bind_eq_some_iff.mp H
                                  obtain ⟨t373, A550, H⟩ := H
                                  replace H : (wharflaw05_CrcBursts.l0 kj47 a3 t355 (rd y362 (ji16)) (wrap64 ((rd y358 (ji16)) + (Int.tmod (wrap64 (a2)) (wrap64 ((rd y362 (ji16)) - (rd y358 (ji16))))))) t373 false (wrap64 (x18_2 + 1))) = some r := H
                                  have A55 := Aside0.mk A550
                                  clear A550
                                  have H' := Aside0.mk H
                                  clear H
                                  obtain ⟨Ao56, co56, eo56⟩ := Kd.R_slice HO_16.out
                                  subst eo56
                                  go_wp2_with (first | ((with_reducible refine gate_callee (f := 22) rfl ?_); refine goesL_ (some 85) rfl rfl Try.func22 (by kernel_rfl) rfl #[.slice Ao56 x16_2.length co56, .int .i64 (wrap64 ((wrap64 ((rd y358 (ji16)) + (Int.tmod (wrap64 (a2)) (wrap64 ((rd y362 (ji16)) - (rd y358 (ji16))))))) + x18_2))] rfl (by (try simp only [List.map_toArray, List.map_cons, List.map_nil]); first | done | (simp only [hji16]; rfl) | rfl | (simp only [List.length_drop, List.length_take]; rfl)) ?_; (with_reducible refine (wharflaw05_flip.calls (fun k_ => some k_ = (.slice Ao56 x16_2.length co56 : Value).ownBlock) (.slice Ao56 x16_2.length co56) x16_2 (wrap64 ((wrap64 ((rd y358 (ji16)) + (Int.tmod (wrap64 (a2)) (wrap64 ((rd y362 (ji16)) - (rd y358 (ji16))))))) + x18_2)) t373 w _ ?side1 ?side2 A55.out).mono ?_); (case side1 => repeat (first | (with_reducible first | exact HB.out | apply below_alloc | apply pw_below_drewN | apply below_drew1) | exact HB.out)); (case side2 => exact Kd.R_tight rfl HO_16.out); rintro e w57 ⟨v374, rfl, ho0, hb, hkp⟩; refine ⟨_, rfl, ?_⟩; have n0_ := Aside0.mk (Kd.R_mono (ok' := fun k_ => some k_ ≠ (v374 : Value).ownBlock) (Kd.R_keptB (HO_12.out) hkp (fun k_ hk_ hs_ => (hk_) hs_)) (fun k_ hk_ => fun e_ => Or.elim (ho0.1 k_ e_.symm) (fun hs_ => hk_.2.1 hs_) (fun hn_ => Nat.not_le.2 hk_.2.2 hn_))); have n1_ := Aside0.mk (Kd.R_mono (ok' := fun k_ => some k_ ≠ (.slice Ao47 t355.length co47 : Value).ownBlock) ho0 (fun k_ hk_ => Or.elim hk_ (fun hs_ => fun e_ => (((HO_12.out).1 k_ e_.symm)) hs_) (fun hn_ => (Kd.fresh' (Kd.R_lt (by (with_reducible repeat (first | apply Kd.R_alloc | apply Kd.R_drewN | apply Kd.R_drew)); exact HO_12.out)) k_ hn_)))); have n2_ := Aside0.mk (hb); clear HO_12; clear HB; clear HO_16; have HO_12 := n0_; have HO375 := n1_; have HB := n2_; clear n0_ n1_ n2_; (try clear hb); (try clear hkp); (try clear ho0)))
                                  go_roundg kj47
                                  case measure => have := HJ5.out; have := HK2.out; have := HJ47.out; omega
                                  case rel => exact ⟨(t373), (false), (wrap64 (x18_2 + 1)), (by first | rfl | (simp; done) | (simp [*]; done)), (by first | rfl | (simp; done) | (simp [*]; done)), H', ⟨by have := HJ5.out; have := HK2.out; have := HJ47.out; omega⟩, ⟨by (with_reducible repeat (first | apply Kd.R_alloc | apply Kd.R_drewN | apply Kd.R_drew)); exact HO_12.out⟩, ⟨by (with_reducible repeat (first | apply Kd.R_alloc | apply Kd.R_drewN | apply Kd.R_drew)); exact HO375.out⟩, ⟨by repeat (first | (with_reducible first | exact HB.out | apply below_alloc | apply pw_below_drewN | apply below_drew1) | exact HB.out)⟩⟩
                                · rw [if_neg c54] at H
                                  have c54b0 : ((Go.bits .and .u32 (ji53) 1) == 1) = false := beq_eq_false_iff_ne.mpr c54
                                  have c54b1 : ((Go.bits .and .u32 (ji53) 1) != 1) = true := bne_iff_ne.mpr c54
                                  have H' := Aside0.mk H
                                  clear H
                                  go_wp2
                                  go_roundg kj47
                                  case measure => have := HJ5.out; have := HK2.out; have := HJ47.out; omega
                                  case rel => exact ⟨(x16_2), (x17_2), (wrap64 (x18_2 + 1)), (by first | rfl | (simp; done) | (simp [*]; done)), (by first | rfl | (simp; done) | (simp [*]; done)), H', ⟨by have := HJ5.out; have := HK2.out; have := HJ47.out; omega⟩, ⟨by (with_reducible repeat (first | apply Kd.R_alloc | apply Kd.R_drewN | apply Kd.R_drew)); exact HO_12.out⟩, ⟨by (with_reducible repeat (first | apply Kd.R_alloc | apply Kd.R_drewN | apply Kd.R_drew)); exact HO_16.out⟩, ⟨by repeat (first | (with_reducible first | exact HB.out | apply below_alloc | apply pw_below_drewN | apply below_drew1) | exact HB.out)⟩⟩
                              · rw [if_neg c52] at H
                                exact absurd H (by simp)
                            · replace c50 := Bool.eq_false_iff.mpr c50
                              subst c50
                              have H1 : ((crc_Sealed.f kj47 t355).bind fun t376 => (if t376 = true then ((crc_Sealed.f kj47 x16_2).bind fun t377 => (some (t377 == x17_2))) else (some false))) = some r := by rw [if_neg (show ¬ (false = true) by decide)] at H; exact H
                              clear H
                              have H := H1
                              clear H1
                              replace H := Option.bind_eq_some_iff.mp H
                              obtain ⟨t376, A580, H⟩ := H
                              replace H : (if t376 = true then ((crc_Sealed.f kj47 x16_2).bind fun t377 => (some (t377 == x17_2))) else (some false)) = some r := H
                              have A58 := Aside0.mk A580
                              clear A580
                              by_cases c59 : t376 = true
                              · subst c59
                                have H1 : ((crc_Sealed.f kj47 x16_2).bind fun t377 => (some (t377 == x17_2))) = some r := by rw [if_pos rfl] at H; exact H
                                clear H
                                have H := H1
                                clear H1
                                replace H := Option.bind_eq_some_iff.mp H
                                obtain ⟨t377, A600, H⟩ := H
                                replace H : (some (t377 == x17_2)) = some r := H
                                have A60 := Aside0.mk A600
                                clear A600
                                obtain rfl := Option.some.inj H
                                go_wp2_with (first | ((with_reducible refine gate_callee (f := 16) rfl ?_); refine goesL_ (some 87) rfl rfl Try.func16 (by kernel_rfl) rfl #[.slice Ao47 t355.length co47] rfl (by (try simp only [List.map_toArray, List.map_cons, List.map_nil]); first | done | rfl | (simp only [List.length_drop, List.length_take]; rfl)) ?_; (with_reducible refine (crc_Sealed.calls kj47 _ _ t355 true _ ?side1 ?side2 A58.out).mono ?_); (case side1 => repeat (first | exact (Kd.R_reads' HO_12.out).2.2 | (with_reducible refine Kd.C_alloc ?_ _) | (with_reducible refine Kd.C_drewN ?_ _) | (with_reducible refine Kd.C_drew ?_))); (case side2 => exact (Kd.R_reads' HO_12.out).2.1); rintro e w61 ⟨rfl, hb⟩; refine ⟨_, rfl, ?_⟩; have n0_ := Aside0.mk (Kd.R_below (by (with_reducible repeat (first | apply Kd.R_alloc | apply Kd.R_drewN | apply Kd.R_drew)); exact HO_12.out) hb); have n1_ := Aside0.mk (Kd.R_below (by (with_reducible repeat (first | apply Kd.R_alloc | apply Kd.R_drewN | apply Kd.R_drew)); exact HO_16.out) hb); have n2_ := Aside0.mk (below_step (by repeat (first | (with_reducible first | exact HB.out | apply below_alloc | apply pw_below_drewN | apply below_drew1) | exact HB.out)) hb); clear HO_12; clear HO_16; clear HB; have HO_12 := n0_; have HO_16 := n1_; have HB := n2_; clear n0_ n1_ n2_; (try clear hb); (try clear hb2); (try clear hk); (try clear hi); obtain ⟨Ao62, co62, eo62⟩ := Kd.R_slice HO_16.out; subst eo62) | (go_at_call 16; (with_reducible refine (crc_Sealed.calls kj47 _ _ x16_2 t377 _ ?side1 ?side2 A60.out).mono ?_); (case side1 => repeat (first | exact (Kd.R_reads' HO_16.out).2.2 | (with_reducible refine Kd.C_alloc ?_ _) | (with_reducible refine Kd.C_drewN ?_ _) | (with_reducible refine Kd.C_drew ?_))); (case side2 => exact (Kd.R_reads' HO_16.out).2.1); rintro e w63 ⟨rfl, hb⟩; have n0_ := Aside0.mk (Kd.R_below (by (with_reducible repeat (first | apply Kd.R_alloc | apply Kd.R_drewN | apply Kd.R_drew)); exact HO_12.out) hb); have n1_ := Aside0.mk (Kd.R_below (by (with_reducible repeat (first | apply Kd.R_alloc | apply Kd.R_drewN | apply Kd.R_drew)); exact HO_16.out) hb); have n2_ := Aside0.mk (below_step (by repeat (first | (with_reducible first | exact HB.out | apply below_alloc | apply pw_below_drewN | apply below_drew1) | exact HB.out)) hb); clear HO_12; clear HO_16; clear HB; have HO_12 := n0_; have HO_16 := n1_; have HB := n2_; clear n0_ n1_ n2_; (try clear hb); (try clear hb2); (try clear hk); (try clear hi)))
                                go_ret
                                exact ⟨by first | rfl | (simp [errW_none, errW_some] <;> rfl) | (simp only [← hji16]; first | rfl | (simp [errW_none, errW_some] <;> rfl)) | (simp [*, errW_none, errW_some] <;> rfl), by repeat (first | (with_reducible first | exact HB.out | apply below_alloc | apply pw_below_drewN | apply below_drew1) | exact HB.out)⟩
                              · replace c59 := Bool.eq_false_iff.mpr c59
                                subst c59
                                have H1 : (some false) = some r := by rw [if_neg (show ¬ (false = true) by decide)] at H; exact H
                                clear H
                                have H := H1
                                clear H1
                                obtain rfl := Option.some.inj H
                                go_wp2_with (first | ((with_reducible refine gate_callee (f := 16) rfl ?_); refine goesL_ (some 87) rfl rfl Try.func16 (by kernel_rfl) rfl #[.slice Ao47 t355.length co47] rfl (by (try simp only [List.map_toArray, List.map_cons, List.map_nil]); first | done | rfl | (simp only [List.length_drop, List.length_take]; rfl)) ?_; (with_reducible refine (crc_Sealed.calls kj47 _ _ t355 false _ ?side1 ?side2 A58.out).mono ?_); (case side1 => repeat (first | exact (Kd.R_reads' HO_12.out).2.2 | (with_reducible refine Kd.C_alloc ?_ _) | (with_reducible refine Kd.C_drewN ?_ _) | (with_reducible refine Kd.C_drew ?_))); (case side2 => exact (Kd.R_reads' HO_12.out).2.1); rintro e w64 ⟨rfl, hb⟩; refine ⟨_, rfl, ?_⟩; have n0_ := Aside0.mk (Kd.R_below (by (with_reducible repeat (first | apply Kd.R_alloc | apply Kd.R_drewN | apply Kd.R_drew)); exact HO_12.out) hb); have n1_ := Aside0.mk (Kd.R_below (by (with_reducible repeat (first | apply Kd.R_alloc | apply Kd.R_drewN | apply Kd.R_drew)); exact HO_16.out) hb); have n2_ := Aside0.mk (below_step (by repeat (first | (with_reducible first | exact HB.out | apply below_alloc | apply pw_below_drewN | apply below_drew1) | exact HB.out)) hb); clear HO_12; clear HO_16; clear HB; have HO_12 := n0_; have HO_16 := n1_; have HB := n2_; clear n0_ n1_ n2_; (try clear hb); (try clear hb2); (try clear hk); (try clear hi)))
                                go_ret
                                exact ⟨by first | rfl | (simp [errW_none, errW_some] <;> rfl) | (simp only [← hji16]; first | rfl | (simp [errW_none, errW_some] <;> rfl)) | (simp [*, errW_none, errW_some] <;> rfl), by repeat (first | (with_reducible first | exact HB.out | apply below_alloc | apply pw_below_drewN | apply below_drew1) | exact HB.out)⟩
                  · rw [if_neg c34] at H
                    exact absurd H (by simp)
            · rw [if_neg c19] at H
              exact absurd H (by simp)
          · rw [if_neg c18] at H
            exact absurd H (by simp)
        · rw [if_neg c17] at H
          exact absurd H (by simp)

/-- THE ONE PURE STATEMENT of wharflaw05_CrcBursts: yours. -/
def wharflaw05_CrcBursts.Pure : Prop := ∀ (a0 : Int) (a1 : Int) (a2 : Int) (a3 : Int) (a4 : Int), (Lit.int .u64 a0).wf = true → (Lit.int .u16 a1).wf = true → (Lit.int .u32 a2).wf = true → (Lit.int .u32 a3).wf = true → (Lit.int .u8 a4).wf = true → ∃ k, wharflaw05_CrcBursts.f k a0 a1 a2 a3 a4 = some true
theorem wharflaw05_CrcBursts.walk (P : wharflaw05_CrcBursts.Pure) (a0 : Int) (a1 : Int) (a2 : Int) (a3 : Int) (a4 : Int) (w : World) (w0 : (Lit.int .u64 a0).wf = true) (w1 : (Lit.int .u16 a1).wf = true) (w2 : (Lit.int .u32 a2).wf = true) (w3 : (Lit.int .u32 a3).wf = true) (w4 : (Lit.int .u8 a4).wf = true) :
    Calls Try.prog 6 #[.int .u64 a0, .int .u16 a1, .int .u32 a2, .int .u32 a3, .int .u8 a4] w fun e w' => e = .returned (.bool true) ∧ Below w.heap.size w w' := by
  obtain ⟨k, h⟩ := P a0 a1 a2 a3 a4 w0 w1 w2 w3 w4
  refine (wharflaw05_CrcBursts.calls k a0 a1 a2 a3 a4 true w h).mono ?_
  rintro e w' ⟨rfl, hd⟩
  exact ⟨rfl, hd⟩

end Go.Proofs.Ytfhnakebfiaccaa.P
