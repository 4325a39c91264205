/- The law CrcFlips: the walk. -/
import Derived.Test.YtfhnakebfiaccaaP0
import Derived.Test.YtfhnakebfiaccaaP5
import Derived.Test.YtfhnakebfiaccaaP12
import Derived.Test.YtfhnakebfiaccaaP14
import Derived.Test.YtfhnakebfiaccaaExtC
import Derived.Deep.QuietTactic
import Derived.BigQuiet
namespace Go.Proofs.Ytfhnakebfiaccaa.P
open Go.RowKit Go.Proofs.YtfhnakebfiaccaaW.PrintWords Go.Proofs.YtfhnakebfiaccaaW.PrintLast Go.Proofs.YtfhnakebfiaccaaW.PrintMore

theorem cell_kept {w1 wr : World} {a : Addr} {v : Value} (h : w1.cell? a = some v) (hB : Below w1.heap.size w1 wr) : wr.cell? a = some v :=
  (hB.cell (World.block_lt_of_cell? w1 _ h)).trans h
set_option maxHeartbeats 800000 in
set_option maxRecDepth 100000 in
theorem flips_walk (a0 : Int) (n ct : Nat) (m q : Nat → Int) (C : Nat → List Int) (t352 t355 : List Int) (k1 k2 k3 : Nat) (w : World) (hct : ct < 256)
    (h14 : wharfref05_Spread.f k1 a0 (wrap64 (12 + (Int.tmod (wrap64 (n : Int)) 3000))) = some t352) (h15 : wharfref05_Seal.f k2 t352 = some t355) (hs : crc_Sealed.f k3 t355 = some true) (hlm : t355.length < 100000)
    (hC0 : C 0 = t355) (hC : ∀ i, i < 3 → wharflaw05_flip.f (C i) (wrap64 (m i)) = some (C (i + 1)))
    (hN : wrap64 (8 * (wrap64 (12 + (Int.tmod (wrap64 (n : Int)) 3000)))) ≠ 0) (hq : ∀ i, i < 3 → Int.tmod (wrap64 (m i)) (wrap64 (8 * (wrap64 (12 + (Int.tmod (wrap64 (n : Int)) 3000))))) = q i)
    (hend : (∀ i j, j < i → i ≤ ct % 3 → q i ≠ q j) → ∃ k, crc_Sealed.f k (C (ct % 3 + 1)) = some false) :
    Calls Try.prog 5 #[.int .u64 a0, .int .u16 (n : Int), .agg #[.int .u32 (m 0), .int .u32 (m 1), .int .u32 (m 2)], .int .u8 (ct : Int)] w fun e w' => e = .returned (.bool true) ∧ Below w.heap.size w w' := by
  have A14 := Aside0.mk h14
  have A15 := Aside0.mk h15
  have AS := Aside0.mk hs
  have LM := Aside0.mk hlm
  have AC0 := Aside0.mk hC0
  have AC := Aside0.mk hC
  have AQ := Aside0.mk hq
  have AE := Aside0.mk hend
  clear h14 h15 hs hlm hC0 hC hq hend
  go_enter Try.func5, Try.ntmps5
  go_upto_region 1 with (fail)
  obtain ⟨w1, hw1⟩ : ∃ w1, w1 = w.alloc (.cells #[.int .u32 (m 0), .int .u32 (m 1), .int .u32 (m 2)] 39) := ⟨_, rfl⟩
  rw [← hw1]
  have hcell : ∀ i, i < 3 → w1.cell? ⟨w.heap.size, i, none⟩ = some (.int .u32 (m i)) := by
    intro i hi
    rw [hw1]
    rcases (show i = 0 ∨ i = 1 ∨ i = 2 by omega) with rfl | rfl | rfl <;> rw [World.cell?_alloc_new] <;> rfl
  have HCELL := Aside0.mk hcell
  have HBW := Aside0.mk (show Below w.heap.size w w1 by rw [hw1]; exact below_alloc (Below.refl _ _) _)
  have HB := Aside0.mk (Below.refl w1.heap.size w1)
  clear hcell hw1
  have hcnt : Int.tmod (wrap64 (ct : Int)) 3 = ((ct % 3 : Nat) : Int) := by
    rw [show wrap64 (ct : Int) = (ct : Int) by unfold wrap64; omega, Int.tmod_eq_emod_of_nonneg (by omega)]
    rfl
  go_wp2_with (first | (go_at_call 8; refine (wharflaw05_awake.calls true _ rfl).mono ?_; rintro e wa ⟨rfl, hb⟩; have HB2 := Aside0.mk (below_then HB.out HB.out.size hb); clear HB; have HB := HB2; clear HB2 hb) | ((with_reducible refine gate_callee (f := 21) rfl ?_); refine goesL_ (some 22) rfl rfl Try.func21 (by kernel_rfl) rfl #[.int .u64 a0, .int .i64 (wrap64 (12 + (Int.tmod (wrap64 (n : Int)) 3000)))] rfl (by (try simp only [List.map_toArray, List.map_cons, List.map_nil]); first | done | rfl | (simp only [List.length_drop, List.length_take]; rfl)) ?_; (with_reducible refine (wharfref05_Spread.calls k1 a0 (wrap64 (12 + (Int.tmod (wrap64 (n : Int)) 3000))) t352 _ A14.out).mono ?_); rintro e w22 ⟨v353, rfl, ho0, hb⟩; refine ⟨_, rfl, ?_⟩; have n0_ := Aside0.mk (Kd.R_lower ho0 (below_size (by repeat (first | (with_reducible first | exact HB.out | apply below_alloc | apply pw_below_drewN | apply below_drew1) | exact HB.out)))); have n1_ := Aside0.mk (below_step (by repeat (first | (with_reducible first | exact HB.out | apply below_alloc | apply pw_below_drewN | apply below_drew1) | exact HB.out)) hb); clear HB; have HO354 := n0_; have HB := n1_; clear n0_ n1_ hb ho0; obtain ⟨Ao23, co23, eo23⟩ := Kd.R_slice HO354.out; subst eo23) | ((with_reducible refine gate_callee (f := 20) rfl ?_); refine goesL_ (some 23) rfl rfl Try.func20 (by kernel_rfl) rfl #[.slice Ao23 t352.length co23] rfl (by (try simp only [List.map_toArray, List.map_cons, List.map_nil]); first | done | rfl | (simp only [List.length_drop, List.length_take]; rfl)) ?_; (with_reducible refine (wharfref05_Seal.calls k2 _ _ t352 t355 _ ?side1 ?side2 A15.out).mono ?_); (case side1 => repeat (first | exact (Kd.R_reads' HO354.out).2.2 | (with_reducible refine Kd.C_alloc ?_ _) | (with_reducible refine Kd.C_drewN ?_ _) | (with_reducible refine Kd.C_drew ?_))); (case side2 => exact (Kd.R_reads' HO354.out).2.1); rintro e w24 ⟨v356, rfl, ho0, hb⟩; refine ⟨_, rfl, ?_⟩; have n1_ := Aside0.mk (Kd.R_lower ho0 (below_size (by repeat (first | (with_reducible first | exact HB.out | apply below_alloc | apply pw_below_drewN | apply below_drew1) | exact HB.out)))); have n2_ := Aside0.mk (below_step (by repeat (first | (with_reducible first | exact HB.out | apply below_alloc | apply pw_below_drewN | apply below_drew1) | exact HB.out)) hb); clear HO354; clear HB; have HO357 := n1_; have HB := n2_; clear n1_ n2_ hb ho0) | ((with_reducible refine gate_dst (N := 24) rfl ?_); refine Kd.R_lit (Kd.int .u8) _ 5 ?hg (N := 24) ?hd (xs := ([] : List Int)) (inner := []) (ok := fun _ => True) (okp := fun _ => True) ?hr ?hp (fun _ hk => hk) trivial (Below.refl _ _) (Nat.le_refl _) (by simp) ?_; (case hd => rfl); (case hg => rfl); (case hr => first | (go_simp; done) | (go_simp; rfl)); (case hp => exact (Reps.none _ _)); intro v368 w44 ho45 hb hg_ hnew_; clear hg_ hnew_; have n1_ := Aside0.mk (Kd.R_elder' (by (with_reducible repeat (first | apply Kd.R_alloc | apply Kd.R_drewN | apply Kd.R_drew)); exact HO357.out) (Kd.R_base ho45) hb); have n4_ := Aside0.mk (Kd.R_lower (Kd.R_new' ho45 (Kd.R_lt (by (with_reducible repeat (first | apply Kd.R_alloc | apply Kd.R_drewN | apply Kd.R_drew)); exact HO357.out))) (below_size (by repeat (first | (with_reducible first | exact HB.out | apply below_alloc | apply pw_below_drewN | apply below_drew1) | exact HB.out)))); have n5_ := Aside0.mk (below_step (by repeat (first | (with_reducible first | exact HB.out | apply below_alloc | apply pw_below_drewN | apply below_drew1) | exact HB.out)) hb); clear HO357; clear HB; have HO357 := n1_; have HO369 := n4_; have HB := n5_; clear n1_ n4_ n5_ hb ho45; obtain ⟨Ao47, co47, eo47⟩ := Kd.R_slice HO357.out; subst eo47) | ((with_reducible refine gate_builtin (b := .append) (xs := #[.tmp 24, .tmp 25]) rfl ?_); at_builtin; refine Kd.R_append_rows (Kd.int .u8) (w0 := w1) w1.heap.size rfl (.tmp 24) (.tmp 25) 24 5 (.int .u8 0) 1 rfl Try.underlying24 info5 rfl (by decide) (by omega) v368 [] t355 _ _ _ (fun k_ => some k_ ≠ (.slice Ao47 t355.length co47 : Value).ownBlock) (fun _ => False) rfl rfl ?aO ?aR (fun _ _ h => h) (fun _ h => h.elim) ?aF ?aB ?aS ?aL ?_; (case aR => repeat (first | exact (Kd.R_reads' HO357.out).2.2 | (with_reducible refine Kd.C_alloc ?_ _) | (with_reducible refine Kd.C_drewN ?_ _) | (with_reducible refine Kd.C_drew ?_))); (case aB => exact (by repeat (first | (with_reducible first | exact HB.out | apply below_alloc | apply pw_below_drewN | apply below_drew1) | exact HB.out))); (case aF => exact (fun k_ hk => Kd.fresh' (Kd.R_lt (by (with_reducible repeat (first | apply Kd.R_alloc | apply Kd.R_drewN | apply Kd.R_drew)); exact HO357.out)) k_ hk)); (case aO => exact (by (with_reducible repeat (first | apply Kd.R_alloc | apply Kd.R_drewN | apply Kd.R_drew)); exact Kd.R_mono HO369.out (fun _ hk => hk.2))); (case aS => exact (below_size (by repeat (first | (with_reducible first | exact HB.out | apply below_alloc | apply pw_below_drewN | apply below_drew1) | exact HB.out)))); (case aL => have := LM.out; rw [List.length_nil]; omega); intro v371 w46 ho hb hg hat; rw [List.nil_append] at ho; have n1_ := Aside0.mk (Kd.R_after (ok := (fun _ => True)) (by (with_reducible repeat (first | apply Kd.R_alloc | apply Kd.R_drewN | apply Kd.R_drew)); exact Kd.R_mono HO357.out (fun _ hk => ⟨trivial, hk.2⟩)) hg hat); have n4_ := Aside0.mk (hb); have n5_ := Aside0.mk (ho); clear HO357; clear HB; clear HO369; have HO357 := n1_; have HB := n4_; have HO372 := n5_; clear n1_ n4_ n5_ ho hb hg hat))
  have hN0 : (wrap64 (8 * (wrap64 (12 + (Int.tmod (wrap64 (n : Int)) 3000)))) == 0) = false := beq_eq_false_iff_ne.2 hN
  go_loopw [11, 12] (fun v11 v12 wr => ∃ i : Nat, i ≤ ct % 3 + 1 ∧ v12 = .int .i64 i ∧ Aside0 (∀ a b, b < a → a < i → q a ≠ q b) ∧ Aside0 (Kd.R (Kd.int .u8) 5 wr w1.heap.size (fun k_ => some k_ ≠ (v11 : Value).ownBlock) (.slice Ao47 t355.length co47) t355) ∧ Aside0 (Kd.R (Kd.int .u8) 5 wr w1.heap.size (fun k_ => some k_ ≠ (.slice Ao47 t355.length co47 : Value).ownBlock) v11 (C i)) ∧ Aside0 (Below w1.heap.size w1 wr)) (fun _ v12 _ => 4 - (intOf v12).toNat)
  case atStart => exact ⟨0, Nat.zero_le _, rfl, ⟨fun a b _ h => absurd h (Nat.not_lt_zero _)⟩, ⟨Kd.R_mono HO357.out (fun _ hk => hk.2)⟩, ⟨by rw [AC0.out]; exact HO372.out⟩, HB⟩
  case round =>
    clear HO357 HO372 HB
    obtain ⟨i, hi, rfl, HD, HO_12, HO_16, HB⟩ := hrel
    obtain ⟨Ao56, co56, eo56⟩ := Kd.R_slice HO_16.out
    subst eo56
    by_cases hle : i ≤ ct % 3
    · have hle0 : decide ((i : Int) ≤ Int.tmod (wrap64 (ct : Int)) 3) = true := decide_eq_true (by rw [hcnt]; omega)
      have hi3 : i < 3 := by omega
      go_wp2
      go_loopw [13] (fun v13 wr => ∃ j : Nat, j ≤ i ∧ v13 = .int .i64 j ∧ Aside0 (∀ b, b < j → q i ≠ q b) ∧ Aside0 (Kd.R (Kd.int .u8) 5 wr w1.heap.size (fun k_ => some k_ ≠ ((.slice Ao56 (C i).length co56) : Value).ownBlock) (.slice Ao47 t355.length co47) t355) ∧ Aside0 (Kd.R (Kd.int .u8) 5 wr w1.heap.size (fun k_ => some k_ ≠ (.slice Ao47 t355.length co47 : Value).ownBlock) (.slice Ao56 (C i).length co56) (C i)) ∧ Aside0 (Below w1.heap.size w1 wr)) (fun v13 _ => 3 - (intOf v13).toNat)
      case atStart => exact ⟨0, Nat.zero_le _, rfl, ⟨fun b h => absurd h (Nat.not_lt_zero _)⟩, HO_12, HO_16, HB⟩
      case round =>
        clear HO_12 HO_16 HB
        obtain ⟨j, hj, rfl, HJ, HO_12, HO_16, HB⟩ := hrel
        have hi0 : (0 : Int) ≤ (i : Int) := by omega
        have hi1 : (i : Int) < (3 : Int) := by omega
        have hmi := cell_kept (HCELL.out i hi3) HB.out
        by_cases hlt : j < i
        · have hlt0 : decide ((j : Int) < (i : Int)) = true := decide_eq_true (by omega)
          have hj0 : (0 : Int) ≤ (j : Int) := by omega
          have hj1 : (j : Int) < (3 : Int) := by omega
          have hmj := cell_kept (HCELL.out j (by omega)) HB.out
          by_cases he : q i = q j
          · have he0 : (Int.tmod (wrap64 (m i)) (wrap64 (8 * (wrap64 (12 + (Int.tmod (wrap64 (n : Int)) 3000))))) == Int.tmod (wrap64 (m j)) (wrap64 (8 * (wrap64 (12 + (Int.tmod (wrap64 (n : Int)) 3000)))))) = true := by rw [AQ.out i hi3, AQ.out j (by omega), he]; exact beq_self_eq_true _
            go_upto_region 12 with (fail)
            go_quiet (fail)
            go_wp2_with ((with_reducible refine gate_callee (f := 16) rfl ?_); refine goesL_ (some 55) rfl rfl Try.func16 (by kernel_rfl) rfl #[.slice Ao47 t355.length co47] rfl (by (try simp only [List.map_toArray, List.map_cons, List.map_nil]); first | done | rfl | (simp only [List.length_drop, List.length_take]; rfl)) ?_; (with_reducible refine (crc_Sealed.calls k3 _ _ t355 true _ ?side1 ?side2 AS.out).mono ?_); (case side1 => repeat (first | exact (Kd.R_reads' HO_12.out).2.2 | (with_reducible refine Kd.C_alloc ?_ _) | (with_reducible refine Kd.C_drewN ?_ _) | (with_reducible refine Kd.C_drew ?_))); (case side2 => exact (Kd.R_reads' HO_12.out).2.1); rintro e w61 ⟨rfl, hb⟩; refine ⟨_, rfl, ?_⟩; have n0_ := Aside0.mk (Kd.R_below (by (with_reducible repeat (first | apply Kd.R_alloc | apply Kd.R_drewN | apply Kd.R_drew)); exact HO_12.out) hb); have n1_ := Aside0.mk (Kd.R_below (by (with_reducible repeat (first | apply Kd.R_alloc | apply Kd.R_drewN | apply Kd.R_drew)); exact HO_16.out) hb); have n2_ := Aside0.mk (below_step (by repeat (first | (with_reducible first | exact HB.out | apply below_alloc | apply pw_below_drewN | apply below_drew1) | exact HB.out)) hb); clear HO_12; clear HO_16; clear HB; have HO_12 := n0_; have HO_16 := n1_; have HB := n2_; clear n0_ n1_ n2_ hb)
            go_ret
            exact ⟨rfl, below_then HBW.out HBW.out.size (by repeat (first | (with_reducible first | exact HB.out | apply below_alloc | apply pw_below_drewN | apply below_drew1) | exact HB.out))⟩
          · have he0 : (Int.tmod (wrap64 (m i)) (wrap64 (8 * (wrap64 (12 + (Int.tmod (wrap64 (n : Int)) 3000))))) == Int.tmod (wrap64 (m j)) (wrap64 (8 * (wrap64 (12 + (Int.tmod (wrap64 (n : Int)) 3000)))))) = false := by rw [AQ.out i hi3, AQ.out j (by omega)]; exact beq_eq_false_iff_ne.2 he
            go_upto_region 12 with (fail)
            go_quiet (fail)
            go_wp2
            go_roundw
            case rel => exact ⟨j + 1, by omega, by go_num, ⟨fun b hb => by rcases Nat.lt_succ_iff_lt_or_eq.1 hb with h | h; exact HJ.out b h; rw [h]; exact he⟩, ⟨by (with_reducible repeat (first | apply Kd.R_alloc | apply Kd.R_drewN | apply Kd.R_drew)); exact HO_12.out⟩, ⟨by (with_reducible repeat (first | apply Kd.R_alloc | apply Kd.R_drewN | apply Kd.R_drew)); exact HO_16.out⟩, ⟨by repeat (first | (with_reducible first | exact HB.out | apply below_alloc | apply pw_below_drewN | apply below_drew1) | exact HB.out)⟩⟩
            case measure => simp [intOf]; omega
        · have hlt0 : decide ((j : Int) < (i : Int)) = false := decide_eq_false (by omega)
          obtain rfl : j = i := by omega
          have A55 := Aside0.mk (AC.out j hi3)
          go_wp2_with ((with_reducible refine gate_callee (f := 22) rfl ?_); refine goesL_ (some 61) rfl rfl Try.func22 (by kernel_rfl) rfl #[.slice Ao56 (C j).length co56, .int .i64 (wrap64 (m j))] rfl (by (try simp only [List.map_toArray, List.map_cons, List.map_nil]); first | done | rfl | (simp only [List.length_drop, List.length_take]; rfl)) ?_; (with_reducible refine (wharflaw05_flip.calls (fun k_ => some k_ = (.slice Ao56 (C j).length co56 : Value).ownBlock) (.slice Ao56 (C j).length co56) (C j) (wrap64 (m j)) (C (j + 1)) w1 _ ?side1 ?side2 A55.out).mono ?_); (case side1 => exact (by repeat (first | (with_reducible first | exact HB.out | apply below_alloc | apply pw_below_drewN | apply below_drew1) | exact HB.out))); (case side2 => exact Kd.R_tight rfl (by (with_reducible repeat (first | apply Kd.R_alloc | apply Kd.R_drewN | apply Kd.R_drew)); exact HO_16.out)); rintro e w57 ⟨v374, rfl, ho0, hb, hkp⟩; refine ⟨_, rfl, ?_⟩; have n0_ := Aside0.mk (Kd.R_mono (ok' := fun k_ => some k_ ≠ (v374 : Value).ownBlock) (Kd.R_keptB (HO_12.out) hkp (fun k_ hk_ hs_ => (hk_) hs_)) (fun k_ hk_ => fun e_ => Or.elim (ho0.1 k_ e_.symm) (fun hs_ => hk_.2.1 hs_) (fun hn_ => Nat.not_le.2 hk_.2.2 hn_))); have n1_ := Aside0.mk (Kd.R_mono (ok' := fun k_ => some k_ ≠ (.slice Ao47 t355.length co47 : Value).ownBlock) ho0 (fun k_ hk_ => Or.elim hk_ (fun hs_ => fun e_ => (((HO_12.out).1 k_ e_.symm)) hs_) (fun hn_ => (Kd.fresh' (Kd.R_lt (by (with_reducible repeat (first | apply Kd.R_alloc | apply Kd.R_drewN | apply Kd.R_drew)); exact HO_12.out)) k_ hn_)))); have n2_ := Aside0.mk (hb); clear HO_12; clear HB; clear HO_16; have HO_12 := n0_; have HO_16 := n1_; have HB := n2_; clear n0_ n1_ n2_ hb hkp ho0)
          go_roundw
          case rel => exact ⟨j + 1, by omega, by go_num, ⟨fun a b hba ha => by rcases Nat.lt_succ_iff_lt_or_eq.1 ha with h | h; exact HD.out a b hba h; subst h; exact HJ.out b hba⟩, ⟨by (with_reducible repeat (first | apply Kd.R_alloc | apply Kd.R_drewN | apply Kd.R_drew)); exact HO_12.out⟩, ⟨by (with_reducible repeat (first | apply Kd.R_alloc | apply Kd.R_drewN | apply Kd.R_drew)); exact HO_16.out⟩, ⟨by repeat (first | (with_reducible first | exact HB.out | apply below_alloc | apply pw_below_drewN | apply below_drew1) | exact HB.out)⟩⟩
          case measure => simp [intOf]; omega
    · have hle0 : decide ((i : Int) ≤ Int.tmod (wrap64 (ct : Int)) 3) = false := decide_eq_false (by rw [hcnt]; omega)
      obtain rfl : i = ct % 3 + 1 := by omega
      obtain ⟨k4, hk4⟩ := AE.out (fun a b hba ha => HD.out a b hba (by omega))
      have A60 := Aside0.mk hk4
      clear hk4
      go_wp2_with (first | ((with_reducible refine gate_callee (f := 16) rfl ?_); refine goesL_ (some 63) rfl rfl Try.func16 (by kernel_rfl) rfl #[.slice Ao47 t355.length co47] rfl (by (try simp only [List.map_toArray, List.map_cons, List.map_nil]); first | done | rfl | (simp only [List.length_drop, List.length_take]; rfl)) ?_; (with_reducible refine (crc_Sealed.calls k3 _ _ t355 true _ ?side1 ?side2 AS.out).mono ?_); (case side1 => repeat (first | exact (Kd.R_reads' HO_12.out).2.2 | (with_reducible refine Kd.C_alloc ?_ _) | (with_reducible refine Kd.C_drewN ?_ _) | (with_reducible refine Kd.C_drew ?_))); (case side2 => exact (Kd.R_reads' HO_12.out).2.1); rintro e w61 ⟨rfl, hb⟩; refine ⟨_, rfl, ?_⟩; have n0_ := Aside0.mk (Kd.R_below (by (with_reducible repeat (first | apply Kd.R_alloc | apply Kd.R_drewN | apply Kd.R_drew)); exact HO_12.out) hb); have n1_ := Aside0.mk (Kd.R_below (by (with_reducible repeat (first | apply Kd.R_alloc | apply Kd.R_drewN | apply Kd.R_drew)); exact HO_16.out) hb); have n2_ := Aside0.mk (below_step (by repeat (first | (with_reducible first | exact HB.out | apply below_alloc | apply pw_below_drewN | apply below_drew1) | exact HB.out)) hb); clear HO_12; clear HO_16; clear HB; have HO_12 := n0_; have HO_16 := n1_; have HB := n2_; clear n0_ n1_ n2_ hb) | (go_at_call 16; (with_reducible refine (crc_Sealed.calls k4 _ _ (C (ct % 3 + 1)) false _ ?side1 ?side2 A60.out).mono ?_); (case side1 => repeat (first | exact (Kd.R_reads' HO_16.out).2.2 | (with_reducible refine Kd.C_alloc ?_ _) | (with_reducible refine Kd.C_drewN ?_ _) | (with_reducible refine Kd.C_drew ?_))); (case side2 => exact (Kd.R_reads' HO_16.out).2.1); rintro e w63 ⟨rfl, hb⟩; have n2_ := Aside0.mk (below_step (by repeat (first | (with_reducible first | exact HB.out | apply below_alloc | apply pw_below_drewN | apply below_drew1) | exact HB.out)) hb); clear HB; have HB := n2_; clear n2_ hb))
      go_ret
      exact ⟨rfl, below_then HBW.out HBW.out.size (by repeat (first | (with_reducible first | exact HB.out | apply below_alloc | apply pw_below_drewN | apply below_drew1) | exact HB.out))⟩
end Go.Proofs.Ytfhnakebfiaccaa.P
