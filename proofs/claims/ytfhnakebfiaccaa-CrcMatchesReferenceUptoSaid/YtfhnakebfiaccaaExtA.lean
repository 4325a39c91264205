/- The contracts of crc.made, crc.add, slices.Clone, slices.Grow (of nil), slices.Concat, slices.Repeat (of one coefficient), math/bits.Mul and of the reference Fast, proved by hand: each Go function comes to what the Lean function beside it tells, wherever that one tells something. -/
import Derived.Test.YtfhnakebfiaccaaP0
import Derived.Deep.RegionLaw
import Derived.IntWalk
import Derived.Laws.BitsAllLaws
import Derived.Laws.CopyOwn
import Derived.Laws.CopyRow
import Derived.Test.YtfhnakebfiaccaaMath
import Derived.WalkSpells
namespace Go.Proofs.Ytfhnakebfiaccaa.P
open Go.RowKit Go.Proofs.Ytfhnakebfiaccaa.M Go.Proofs.YtfhnakebfiaccaaW.PrintWords Go.Proofs.YtfhnakebfiaccaaW.PrintLast Go.Proofs.YtfhnakebfiaccaaW.PrintMore
attribute [local go_sem] max2_int min2_int max_two min_two max_three min_three max_four min_four
set_option linter.unusedVariables false
set_option linter.unusedSimpArgs false

def slices_Clone_byte_byte.f (l0 : List Int) : Option (List Int) := if l0.length < 140737488355328 then some l0 else none
set_option maxHeartbeats 8000000 in
set_option maxRecDepth 100000 in
theorem slices_Clone_byte_byte.calls (A0 : Option Addr) (c0 : Nat) (l0 : List Int) (r : List Int) (w : World) (hr0 : Kd.C (Kd.int .u8) w A0 l0.length l0) (hc0 : l0.length ≤ c0) (h : slices_Clone_byte_byte.f l0 = some r) :
    Calls Try.prog 37 #[.slice A0 l0.length c0] w fun e w' => ∃ v0_ : Value, e = .returned (v0_) ∧ Kd.R (Kd.int .u8) 5 w' w.heap.size (fun _ => True) v0_ r ∧ Below w.heap.size w w' := by
  have HR0 := Aside0.mk hr0
  have HC0 := Aside0.mk hc0
  clear hr0 hc0
  have HB := Aside0.mk (Below.refl w.heap.size w)
  unfold slices_Clone_byte_byte.f at h
  by_cases c2 : l0.length < 140737488355328
  · rw [if_pos c2] at h
    obtain rfl := Option.some.inj h
    clear h
    have LMc2 := Aside0.mk c2
    clear c2
    have qn : ∀ (w : World) (a : Option Addr) (n c : Nat), (binOp .eql 24 (.slice a n c) (.slice none 0 0)).run Try.prog w = .ok (.bool a.isNone) w := fun w a n c => Lib.run_eql_slice_nil w 24 5 a n c 0 0 Try.underlying24
    cases A0 with
    | none =>
      have hl : l0 = [] := by
        have h1 := HR0.out.2.2
        cases l0 with
        | nil => rfl
        | cons x l => obtain ⟨ad, e, _⟩ := h1 (by simp); cases e
      subst hl
      go_enter Try.func37, Try.ntmps37
      go_wp2
      go_ret
      exact ⟨_, rfl, Kd.R_nil _ _ _ _ _, HB.out⟩
    | some ad =>
      obtain ⟨y295, hy295⟩ : ∃ y_ : List Int, y_ = (([] : List Int)) := ⟨_, rfl⟩
      have Ny295 := Aside0.mk hy295
      clear hy295
      go_enter Try.func37, Try.ntmps37
      go_wp2_with (first | ((with_reducible refine gate_dst (N := 5) rfl ?_); refine Kd.R_lit (Kd.int .u8) _ 5 ?hg (N := 5) ?hd (xs := ([] : List Int)) (inner := []) (ok := fun _ => True) (okp := fun _ => True) ?hr ?hp (fun _ hk => hk) trivial (Below.refl _ _) (Nat.le_refl _) (by simp) ?_; (case hd => rfl); (case hg => rfl); (case hr => first | (go_simp; done) | (go_simp; rfl)); (case hp => exact (Reps.none _ _)); intro v296 w3 ho4 hb hg_ hnew_; clear hg_ hnew_; (first | rw [← Ny295.out] at ho4 | (simp only [Int.reduceToNat] at ho4; rw [← Ny295.out] at ho4)); have n0_ := Aside0.mk (Kd.R_lower ho4 (below_size (by repeat (first | (with_reducible first | exact HB.out | apply below_alloc | apply pw_below_drewN | apply below_drew1) | exact HB.out)))); have n1_ := Aside0.mk (below_step (by repeat (first | (with_reducible first | exact HB.out | apply below_alloc | apply pw_below_drewN | apply below_drew1) | exact HB.out)) hb); clear HB; have HO297 := n0_; have HB := n1_; clear n0_ n1_; clear hb ho4) | ((with_reducible refine gate_builtin (b := .append) (xs := #[.tmp 5, .tmp 6]) rfl ?_); at_builtin; refine Kd.R_append_rows (Kd.int .u8) (w0 := w) w.heap.size rfl (.tmp 5) (.tmp 6) 24 5 (.int .u8 0) 1 rfl Try.underlying24 info5 rfl (by decide) (by omega) v296 y295 l0 _ _ _ (fun _ => True) (fun _ => False) rfl rfl ?aO ?aR (fun _ _ h => h) (fun _ h => h.elim) ?aF ?aB ?aS ?aL ?_; (case aR => repeat (first | exact (Kd.C_below HR0.out HB.out) | (with_reducible refine Kd.C_alloc ?_ _) | (with_reducible refine Kd.C_drewN ?_ _) | (with_reducible refine Kd.C_drew ?_))); (case aB => exact (by repeat (first | (with_reducible first | exact HB.out | apply below_alloc | apply pw_below_drewN | apply below_drew1) | exact HB.out))); (case aF => exact (fun _ _ => trivial)); (case aO => exact (by (with_reducible repeat (first | apply Kd.R_alloc | apply Kd.R_drewN | apply Kd.R_drew)); exact HO297.out)); (case aS => exact (below_size (by repeat (first | (with_reducible first | exact HB.out | apply below_alloc | apply pw_below_drewN | apply below_drew1) | exact HB.out)))); (case aL => have h1 := LMc2.out; have h2 := Ny295.out; subst h2; simp only [List.length_nil]; omega); intro v299 w5 ho hb hg hat; have n0_ := Aside0.mk (hb); have n1_ := Aside0.mk (ho); clear HB; clear HO297; have HB := n0_; have HO300 := n1_; clear n0_ n1_; clear ho hb hg hat))
      go_ret
      have hh := HO300.out
      rw [Ny295.out] at hh
      exact ⟨_, rfl, hh, HB.out⟩
  · rw [if_neg c2] at h
    cases h

theorem xor_out (Q c k : Nat) : Go.bits .xor .u32 ((Q : Int) % 2) ((c : Int) / 2 ^ k % 2) = ((Q % 2 ^^^ c / 2 ^ k % 2 : Nat) : Int) := by
  have h := u32_xor_nat (Q % 2) (c / 2 ^ k % 2) (by omega) (by omega)
  rw [← h]
  push_cast
  rfl
theorem xor_half {Q : Nat} (hQ : Q < 4294967296) : Go.bits .xor .u32 ((Q : Int) / 2) 2197175160 = ((Q / 2 ^^^ 2197175160 : Nat) : Int) := by
  have e : ((Q / 2 : Nat) : Int) = (Q : Int) / 2 := by omega
  rw [← e]
  exact u32_xor_nat (Q / 2) 2197175160 (by omega) (by omega)
def wharfref05_Fast.f (l0 : List Int) : Option (Int) := if Bytes l0 then some ((4294967295 - crcN 4294967295 (toN l0) : Nat) : Int) else none
set_option maxHeartbeats 8000000 in
set_option maxRecDepth 100000 in
theorem wharfref05_Fast.calls (A0 : Option Addr) (c0 : Nat) (l0 : List Int) (r : Int) (w : World) (hr0 : Kd.C (Kd.int .u8) w A0 l0.length l0) (hc0 : l0.length ≤ c0) (h : wharfref05_Fast.f l0 = some r) :
    Calls Try.prog 13 #[.slice A0 l0.length c0] w fun e w' => e = .returned (.int .u32 r) ∧ Drawn0 w w' := by
  have HR0 := Aside0.mk hr0
  have HC0 := Aside0.mk hc0
  have HM := Aside0.mk (Kd.C_max hr0)
  clear hr0 hc0
  unfold wharfref05_Fast.f at h
  by_cases hb : Bytes l0
  · rw [if_pos hb] at h
    obtain rfl := Option.some.inj h
    clear h
    have HBY := Aside0.mk hb
    clear hb
    go_enter Try.func13, Try.ntmps13
    go_wp2
    go_loopw [3, 4] (fun v3 v4 w' => ∃ (i R : Nat), i ≤ l0.length ∧ v3 = .int .u32 (R : Int) ∧ v4 = .int .i64 i ∧ Aside0 (R = crcN 4294967295 (toN (l0.take i))) ∧ Drawn0 w w') (fun _ v4 _ => l0.length - (intOf v4).toNat)
    case atStart => exact ⟨0, 4294967295, Nat.zero_le _, rfl, rfl, ⟨rfl⟩, Drawn0.refl _⟩
    case round =>
      obtain ⟨i, R, hi, rfl, rfl, HR, ⟨m1, rfl⟩⟩ := hrel
      have hm := HM.out
      by_cases hlt : i < l0.length
      · obtain ⟨c, hc⟩ : ∃ c : Nat, c = (l0[i]).toNat := ⟨_, rfl⟩
        have hbi := HBY.out (l0[i]) (List.getElem_mem hlt)
        have hrd : rd l0 i = (c : Int) := by rw [hc, rd, Int.toNat_natCast, List.getD_eq_getElem?_getD, List.getElem?_eq_getElem hlt, Option.getD_some]; omega
        have hR0 : R < 4294967296 := by rw [HR.out]; exact crcN_lt _ (by decide)
        have hc8 : c < 256 := by omega
        obtain ⟨ad, eA, hx⟩ := Kd.at_int HR0.out (i : Int) (by omega) (by omega)
        rw [hrd, Int.toNat_natCast] at hx
        have HRD := Aside0.mk hrd
        have HC := Aside0.mk hc
        clear hrd hc hbi
        subst eA
        go_wp2
        go_loopw [3, 5] (fun v3 v5 w' => ∃ (k Q : Nat), k ≤ 8 ∧ v3 = .int .u32 (Q : Int) ∧ v5 = .int .i64 k ∧ Aside0 (Q = fbits R c k) ∧ Drawn0 w w') (fun _ v5 _ => 8 - (intOf v5).toNat)
        case atStart => exact ⟨0, R, Nat.zero_le _, rfl, rfl, ⟨rfl⟩, (Drawn0.refl _).step _⟩
        case round =>
          obtain ⟨k, Q, hk, rfl, rfl, HQ, ⟨m2, rfl⟩⟩ := hrel
          have hQ0 : Q < 4294967296 := by rw [HQ.out]; exact fbits_lt hR0 k
          by_cases hk8 : k < 8
          · go_wp2
            · have ht : (bits BinOp.xor IntKind.u32 ((Q : Int) % 2) ((c : Int) / 2 ^ k % 2) == 1) = true := by assumption
              rw [xor_out] at ht
              have ht' : Q % 2 ^^^ c / 2 ^ k % 2 = 1 := by have := eq_of_beq ht; omega
              have e1 : bits .xor .u32 ((Q : Int) / 2) 2197175160 = ((fbit Q (c / 2 ^ k % 2) : Nat) : Int) := by
                rw [fbit, if_pos ht', xor_half hQ0]
              go_roundw
              case rel => exact ⟨k + 1, fbit Q (c / 2 ^ k % 2), by omega, by rw [e1], by go_num, ⟨by rw [HQ.out]; rfl⟩, (Drawn0.refl _).step _⟩
              case measure => simp [intOf]; omega
            · have ht : (bits BinOp.xor IntKind.u32 ((Q : Int) % 2) ((c : Int) / 2 ^ k % 2) == 1) = false := by assumption
              rw [xor_out] at ht
              have ht' : ¬ Q % 2 ^^^ c / 2 ^ k % 2 = 1 := by intro e; rw [e] at ht; exact absurd ht (by decide)
              go_roundw
              case rel => exact ⟨k + 1, fbit Q (c / 2 ^ k % 2), by omega, by rw [fbit, if_neg ht']; rfl, by go_num, ⟨by rw [HQ.out]; rfl⟩, (Drawn0.refl _).step _⟩
              case measure => simp [intOf]; omega
          · obtain rfl : k = 8 := by omega
            go_wp2
            go_roundw
            case rel => exact ⟨i + 1, Q, by omega, rfl, by go_num, ⟨by rw [crcN_snoc _ _ _ hlt, HQ.out, ← HR.out, ← HC.out]; rfl⟩, (Drawn0.refl _).step _⟩
            case measure => simp [intOf]; omega
      · obtain rfl : i = l0.length := by omega
        have hR0 : R < 4294967296 := by rw [HR.out]; exact crcN_lt _ (by decide)
        go_wp2
        go_ret
        refine ⟨?_, (Drawn0.refl _).step _⟩
        have h1 := HR.out
        rw [List.take_length] at h1
        rw [← h1]
        refine congrArg (fun z => Ending.returned (.int .u32 z)) (?_ : 4294967295 - (R : Int) = ((4294967295 - R : Nat) : Int))
        omega
  · rw [if_neg hb] at h
    cases h

def Z63 : Array Value := Array.replicate 256 (.int .u32 0)
theorem zero63 (w : World) : (zeroValue 63).run Try.prog w = .ok (.agg Z63) w := by
  have h : (Try.prog.info? 63).map (fun i => i.zero) = some (some (.agg Z63)) := by kernel_rfl
  cases hq : Try.prog.info? 63 with
  | none => rw [hq] at h; cases h
  | some i =>
    rw [hq] at h
    have hz : i.zero = some (.agg Z63) := by simpa using h
    simp [zeroValue, Sem.run_bind, typeInfo, hq, hz]
def rowAt (i : Nat) : Array Value := ((List.range 256).map (fun j => if j < i then Value.int .u32 ((ticks 8 j : Nat) : Int) else .int .u32 0)).toArray
theorem rowAt_zero : rowAt 0 = Z63 := by
  unfold rowAt Z63
  apply Array.ext
  · simp
  · intro j h1 h2
    simp
theorem rowAt_size (i : Nat) : (rowAt i).size = 256 := by simp [rowAt]
theorem rowAt_get (i j : Nat) (h : j < 256) : (rowAt i)[j]? = some (if j < i then Value.int .u32 ((ticks 8 j : Nat) : Int) else .int .u32 0) := by
  simp [rowAt, h]
theorem rowAt_set (i : Nat) (h : i < 256) : (rowAt i).setIfInBounds i (.int .u32 ((ticks 8 i : Nat) : Int)) = rowAt (i + 1) := by
  apply Array.ext
  · simp [rowAt]
  · intro j h1 h2
    have hj : j < 256 := by simpa [rowAt] using h2
    rw [Array.getElem_setIfInBounds (by simpa [rowAt] using hj)]
    simp only [rowAt, List.getElem_toArray, List.getElem_map, List.getElem_range]
    by_cases e : i = j
    · subst e; simp
    · rw [if_neg e]
      by_cases hji : j < i
      · rw [if_pos hji, if_pos (by omega)]
      · rw [if_neg hji, if_neg (by omega)]
theorem tick_walk {X : Nat} (hX : X < 4294967296) : Go.bits .xor .u32 ((X : Int) / 2) (Go.bits .and .u32 (X : Int) 1 * 2197175160 % 4294967296) = ((tick X : Nat) : Int) := by
  have e : ((X / 2 : Nat) : Int) = (X : Int) / 2 := by omega
  have e1 : Go.bits .and .u32 (X : Int) 1 = ((X % 2 : Nat) : Int) := by
    have h := u32_and_nat X 1 hX (by decide)
    rw [Nat.and_one_is_mod] at h
    exact h
  rw [← e, e1]
  rcases Nat.mod_two_eq_zero_or_one X with h | h
  · rw [h]
    unfold tick
    rw [if_neg (by omega)]
    have h1 := u32_xor_nat (X / 2) 0 (by omega) (by decide)
    rw [Nat.xor_zero] at h1
    exact h1
  · rw [h]
    unfold tick
    rw [if_pos h]
    exact u32_xor_nat (X / 2) 2197175160 (by omega) (by decide)
set_option maxHeartbeats 800000 in
set_option maxRecDepth 100000 in
theorem crc_made.calls (w : World) :
    Calls Try.prog 42 #[] w fun e w' => e = .returned (.agg (rowAt 256)) ∧ Below w.heap.size w w' := by
  have hz := zero63
  go_enter Try.func42, Try.ntmps42
  go_wp2
  go_loopw [1, 2, 3, 4] (fun v1 v2 v3 v4 wr => ∃ i : Nat, i ≤ 256 ∧ v4 = .int .i64 i ∧ Aside0 (wr.heap[w.heap.size]? = some (.cells (rowAt i) 63 (0, 0))) ∧ Aside0 (Below w.heap.size w wr)) (fun _ _ _ v4 _ => 256 - (intOf v4).toNat)
  case atStart => exact ⟨0, Nat.zero_le _, rfl, ⟨by rw [rowAt_zero]; exact heap_alloc_new _ _⟩, ⟨(Below.refl _ _).alloc (Nat.le_refl _) _⟩⟩
  case round =>
    obtain ⟨i, hi, rfl, HBLK, HB⟩ := hrel
    by_cases hlt : i < 256
    · go_wp2
      go_loop [2, 3, 9] (fun v2 v3 v9 => ∃ (k X : Nat), k ≤ 8 ∧ v2 = .int .u32 X ∧ v9 = .int .i64 k ∧ Aside0 (X = ticks k i))
        (fun _ _ v9 => 8 - (intOf v9).toNat)
      case atStart => exact ⟨0, i, Nat.zero_le _, rfl, rfl, ⟨rfl⟩⟩
      case round =>
        obtain ⟨k, X, hk, rfl, rfl, HX⟩ := hrel
        have hX : X < 4294967296 := by rw [HX.out]; exact ticks_lt (by omega) k
        by_cases hk8 : k < 8
        · go_wp2
          go_round
          case rel => exact ⟨k + 1, tick X, by omega, by rw [tick_walk hX], by go_num, ⟨by rw [HX.out]; rfl⟩⟩
          case measure => simp [intOf]; omega
        · obtain rfl : k = 8 := by omega
          have hc : wr.cell? ⟨w.heap.size, i, none⟩ = some (.int .u32 0) := by
            rw [blk_cell HBLK.out, rowAt_get i i hlt, if_neg (Nat.lt_irrefl i)]
          have hf : wr.frozen? ⟨w.heap.size, i, none⟩ = false := blk_frozen HBLK.out i
          go_wp2
          go_roundw
          case rel => exact ⟨i + 1, by omega, by go_num, ⟨by rw [← rowAt_set i hlt, ← HX.out]; exact blk_set HBLK.out i _⟩, ⟨HB.out.setCell (p := ⟨w.heap.size, i, none⟩) (Nat.le_refl _) _⟩⟩
          case measure => simp [intOf]; omega
    · obtain rfl : i = 256 := by omega
      go_wp2_with (first | refine wpList_load_row rfl 63 (.tmp 0) rfl w.heap.size rfl 63 (rowAt 256) (0, 0) _ HBLK.out Try.underlying63 rfl (by kernel_rfl) ?_ | refine wpList_store_row rfl 63 (.tmp 0) (.tmp 23) rfl w.heap.size (rowAt 256) rfl rfl 63 (rowAt 256) HBLK.out (by kernel_rfl) rfl (by kernel_rfl) ?_)
      rw [setRow_self _ _ _ _ _ HBLK.out]
      exact bodyPost_ret (results_cell_row rfl _ _ w.heap.size 63 (rowAt 256) (0, 0) _ rfl HBLK.out Try.underlying63 rfl (by kernel_rfl)) rfl ⟨rfl, HB.out⟩
def crc_add.f (a0 : Int) (l1 : List Int) : Option Int := if 0 ≤ a0 ∧ a0 < 4294967296 ∧ Bytes l1 then some ((crcN a0.toNat (toN l1) : Nat) : Int) else none
theorem setRow_get {W : World} {g : Nat} {old : Array Value} {t : TypeId} (h : W.heap[g]? = some (.cells old t (0, 0))) (cs : Array Value) : (W.setRow g cs).heap[g]? = some (.cells cs t (0, 0)) := by
  simp only [World.setRow, Array.getElem?_modify, if_true, h, Option.map_some]
theorem idx_walk {R c : Nat} (hc : c < 256) : Go.bits .xor .u8 ((R : Int) % 256) (c : Int) = ((R % 256 ^^^ c : Nat) : Int) := by
  have e : ((R % 256 : Nat) : Int) = (R : Int) % 256 := by omega
  rw [← e]
  exact u8_xor_nat (R % 256) c (by omega) hc
theorem step_walk {R t : Nat} (hR : R < 4294967296) (ht : t < 4294967296) : Go.bits .xor .u32 ((R : Int) / 256) (t : Int) = ((R / 256 ^^^ t : Nat) : Int) := by
  have e : ((R / 256 : Nat) : Int) = (R : Int) / 256 := by omega
  rw [← e]
  exact u32_xor_nat (R / 256) t (by omega) ht
set_option maxHeartbeats 800000 in
set_option maxRecDepth 100000 in
theorem crc_add.calls (a0 : Int) (A1 : Option Addr) (c1 : Nat) (l1 : List Int) (r : Int) (w : World) (hr1 : Kd.C (Kd.int .u8) w A1 l1.length l1) (hc1 : l1.length ≤ c1) (h : crc_add.f a0 l1 = some r) :
    Calls Try.prog 29 #[.int .u32 a0, .slice A1 l1.length c1] w fun e w' => e = .returned (.int .u32 r) ∧ Below w.heap.size w w' := by
  have HR0 := Aside0.mk hr1
  have HC0 := Aside0.mk hc1
  have HM := Aside0.mk (Kd.C_max hr1)
  clear hr1 hc1
  unfold crc_add.f at h
  by_cases hb : 0 ≤ a0 ∧ a0 < 4294967296 ∧ Bytes l1
  · rw [if_pos hb] at h
    obtain rfl := Option.some.inj h
    clear h
    obtain ⟨h0, h1, hb⟩ := hb
    have HBY := Aside0.mk hb
    clear hb
    obtain ⟨q, rfl⟩ : ∃ q : Nat, a0 = q := ⟨a0.toNat, by omega⟩
    rw [Int.toNat_natCast]
    have hq : q < 4294967296 := by omega
    clear h0 h1
    have hz := zero63
    go_enter Try.func29, Try.ntmps29
    go_wp2_with (first | (go_at_call 42; refine (crc_made.calls _).mono ?_; rintro e w1 ⟨rfl, hb1⟩; have HB1 := Aside0.mk hb1; clear hb1) | refine wpList_store_row rfl 63 (.tmp 5) (.tmp 8) rfl w1.heap.size (rowAt 256) rfl rfl 63 Z63 (heap_alloc_new _ _) (by kernel_rfl) rfl (by kernel_rfl) ?_)
    have HBLK : Aside0 (((w1.alloc (.cells Z63 63)).setRow w1.heap.size (rowAt 256)).heap[w1.heap.size]? = some (.cells (rowAt 256) 63 (0, 0))) := ⟨setRow_get (heap_alloc_new _ _) _⟩
    have HB2 : Aside0 (Below w.heap.size w ((w1.alloc (.cells Z63 63)).setRow w1.heap.size (rowAt 256))) := ⟨below_setRow (below_alloc HB1.out _) HB1.out.size _⟩
    generalize (w1.alloc (.cells Z63 63)).setRow w1.heap.size (rowAt 256) = w2 at HBLK HB2 ⊢
    have hg : w.heap.size ≤ w1.heap.size := HB1.out.size
    obtain ⟨g, hg1⟩ : ∃ g, g = w1.heap.size := ⟨_, rfl⟩
    rw [← hg1] at HBLK ⊢
    clear HB1 hg hg1
    go_loopw [0, 11] (fun v0 v11 wr => ∃ i R : Nat, i ≤ l1.length ∧ v11 = .int .i64 i ∧ v0 = .int .u32 R ∧ Aside0 (R = crcN q (toN (l1.take i))) ∧ Aside0 (wr.heap[g]? = some (.cells (rowAt 256) 63 (0, 0))) ∧ Aside0 (Below w.heap.size w wr)) (fun _ v11 _ => l1.length - (intOf v11).toNat)
    case atStart => exact ⟨0, q, Nat.zero_le _, rfl, rfl, ⟨rfl⟩, HBLK, HB2⟩
    case round =>
      clear HBLK HB2
      obtain ⟨i, R, hi, rfl, rfl, HR, HBLK, HB⟩ := hrel
      have hm := HM.out
      have hR0 : R < 4294967296 := by rw [HR.out]; exact crcN_lt _ hq
      by_cases hlt : i < l1.length
      · obtain ⟨c, hc⟩ : ∃ c : Nat, c = (l1[i]).toNat := ⟨_, rfl⟩
        have hbi := HBY.out (l1[i]) (List.getElem_mem hlt)
        have hrd : rd l1 i = (c : Int) := by rw [hc, rd, Int.toNat_natCast, List.getD_eq_getElem?_getD, List.getElem?_eq_getElem hlt, Option.getD_some]; omega
        have hc8 : c < 256 := by omega
        obtain ⟨ad, eA, hx⟩ := Kd.at_int HR0.out (i : Int) (by omega) (by omega)
        rw [hrd, Int.toNat_natCast] at hx
        have hx2 := (HB.out.cell (World.block_lt_of_cell? w _ hx)).trans hx
        have HC := Aside0.mk hc
        clear hrd hc hbi hx
        subst eA
        obtain ⟨ix, hix⟩ : ∃ ix : Nat, ix = (R % 256 ^^^ c) := ⟨_, rfl⟩
        have hixlt : ix < 256 := by rw [hix]; exact Nat.xor_lt_two_pow (n := 8) (by omega) (by omega)
        have hiw : Go.bits .xor .u8 ((R : Int) % 256) (c : Int) = (ix : Int) := by rw [hix]; exact idx_walk hc8
        have HIX := Aside0.mk hix
        clear hix
        have hcell : wr.cell? ⟨g, ix, none⟩ = some (.int .u32 ((ticks 8 ix : Nat) : Int)) := by
          rw [blk_cell HBLK.out, rowAt_get 256 ix hixlt, if_pos hixlt]
        have hq0 : (0 : Int) ≤ (ix : Int) := by omega
        have hq1 : (ix : Int) < 256 := by omega
        go_wp2
        rw [step_walk hR0 (ticks_lt (by omega) 8)]
        go_roundw
        case rel => exact ⟨i + 1, R / 256 ^^^ ticks 8 ix, by omega, by go_num, rfl, ⟨by rw [crcN_snoc _ _ _ hlt, HIX.out, byteStep_table hc8, ← HR.out, ← HC.out]⟩, HBLK, HB⟩
        case measure => simp [intOf]; omega
      · obtain rfl : i = l1.length := by omega
        go_wp2
        go_ret
        have h1 := HR.out
        rw [List.take_length] at h1
        exact ⟨by rw [← h1]; rfl, HB.out⟩
  · rw [if_neg hb] at h
    cases h

set_option maxHeartbeats 800000 in
set_option maxRecDepth 100000 in
theorem grow_nil (m : Nat) (hm : m ≤ 140737488355328) (w : World) :
    Calls Try.prog 47 #[.slice none 0 0, .int .i64 (m : Int)] w fun e w' => ∃ v0_ : Value, e = .returned (v0_) ∧ Kd.R (Kd.int .u8) 5 w' w.heap.size (fun _ => True) v0_ [] ∧ Below w.heap.size w w' := by
  by_cases h0 : 0 < m
  · have hb1 : decide ((0 : Int) < (m : Int)) = true := decide_eq_true (by omega)
    have hb0 : decide ((m : Int) < 0) = false := decide_eq_false (by omega)
    go_enter Try.func47, Try.ntmps47
    go_wp2_with (at_builtin; refine Kd.R_append_zeros (Kd.int .u8) (w0 := w) w.heap.size rfl (.tmp 20) (.tmp 21) 52 3 5 (.int .u8 0) 1 rfl Try.underlying52 Try.underlying3 info5 rfl (by decide) (by omega) (.slice none 0 0) [] 0 (m : Int) (fun _ => True) rfl rfl ?hz ?aF ?aO ?h0 ?aB ?aS ?aL ?_; (case hz => exact rfl); (case aF => exact fun _ _ => trivial); (case aO => exact Kd.R_nil _ _ _ _ _); (case h0 => omega); (case aB => exact Below.refl _ _); (case aS => exact Nat.le_refl _); (case aL => simp; omega); intro v1 w1 ho hb hg hat; obtain ⟨g, cap, rfl, hbg, _⟩ := Kd.R_form ho (by simp; omega); have HO := Aside0.mk ho; have HB := Aside0.mk hb; clear ho hb hg hat)
    go_ret
    have h := Kd.R_take HO.out (Nat.zero_le _)
    rw [List.take_zero] at h
    exact ⟨_, rfl, h, HB.out⟩
  · obtain rfl : m = 0 := by omega
    go_enter Try.func47, Try.ntmps47
    go_wp2
    go_ret
    exact ⟨_, rfl, Kd.R_nil _ _ _ _ _, Below.refl _ _⟩

def poly_Poly_byte_44.f (l0 : List (List Int)) : Option (List Int) := if l0.flatten.length < 140737488355328 then some l0.flatten else none
theorem flatten_snoc (l0 : List (List Int)) (i : Nat) (h : i < l0.length) : (l0.take (i + 1)).flatten = (l0.take i).flatten ++ rd_L1 l0 (i : Int) := by
  rw [List.take_succ_eq_append_getElem h, List.flatten_append, rd_L1, Int.toNat_natCast, List.getD_eq_getElem?_getD, List.getElem?_eq_getElem h]
  simp
theorem flatten_take_le (l0 : List (List Int)) (i : Nat) : (l0.take i).flatten.length ≤ l0.flatten.length := by
  conv => rhs; rw [← List.take_append_drop i l0, List.flatten_append, List.length_append]
  omega
set_option maxHeartbeats 800000 in
set_option maxRecDepth 100000 in
theorem poly_Poly_byte_44.calls (A0 : Option Addr) (c0 : Nat) (l0 : List (List Int)) (r : List Int) (w : World) (hr0 : Kd.C (Kd.slice 5 (Kd.int .u8)) w A0 l0.length l0) (hc0 : l0.length ≤ c0) (h : poly_Poly_byte_44.f l0 = some r) :
    Calls Try.prog 44 #[.slice A0 l0.length c0] w fun e w' => ∃ v0_ : Value, e = .returned (v0_) ∧ Kd.R (Kd.int .u8) 5 w' w.heap.size (fun _ => True) v0_ r ∧ Below w.heap.size w w' := by
  have HR0 := Aside0.mk hr0
  have HC0 := Aside0.mk hc0
  have HM := Aside0.mk (Kd.C_max hr0)
  clear hr0 hc0
  unfold poly_Poly_byte_44.f at h
  by_cases hb : l0.flatten.length < 140737488355328
  · rw [if_pos hb] at h
    obtain rfl := Option.some.inj h
    clear h
    have HS := Aside0.mk hb
    clear hb
    go_enter Try.func44, Try.ntmps44
    go_wp2
    go_loop [3, 11] (fun v3 v11 => ∃ i n : Nat, i ≤ l0.length ∧ v3 = .int .i64 n ∧ v11 = .int .i64 i ∧ Aside0 (n = (l0.take i).flatten.length)) (fun _ v11 => l0.length - (intOf v11).toNat)
    case atStart => exact ⟨0, 0, Nat.zero_le _, rfl, rfl, ⟨rfl⟩⟩
    case round =>
      obtain ⟨i, n, hi, rfl, rfl, HN⟩ := hrel
      have hm := HM.out
      by_cases hlt : i < l0.length
      · obtain ⟨ad, B0, d0, eA, hx, hl, hC⟩ := at_L1 HR0.out (i : Int) (by omega) (by omega)
        subst eA
        have hsn : n + (rd_L1 l0 (i : Int)).length = (l0.take (i + 1)).flatten.length := by rw [flatten_snoc l0 i hlt, List.length_append, HN.out]
        have hle := flatten_take_le l0 (i + 1)
        have hs := HS.out
        have hn1 : n + (rd_L1 l0 (i : Int)).length < 140737488355328 := by omega
        have HSN := Aside0.mk hsn
        clear hsn hle hs hC
        rw [Int.toNat_natCast] at hx
        go_wp2
        go_round
        case rel => exact ⟨i + 1, n + (rd_L1 l0 (i : Int)).length, by omega, by go_num, by go_num, HSN⟩
        case measure => simp [intOf]; omega
      · obtain rfl : i = l0.length := by omega
        have hn : n < 140737488355328 := by rw [HN.out, List.take_length]; exact HS.out
        go_wp2_with (go_at_call 47; refine (grow_nil n (by omega) _).mono ?_; rintro e w1 ⟨v, rfl, ho, hb⟩; have HO := Aside0.mk ho; have HB := Aside0.mk hb; clear ho hb)
        go_loopw [6, 27] (fun v6 v27 wr => ∃ i : Nat, i ≤ l0.length ∧ v27 = .int .i64 i ∧ Aside0 (Kd.R (Kd.int .u8) 5 wr w.heap.size (fun _ => True) v6 (l0.take i).flatten) ∧ Aside0 (Below w.heap.size w wr)) (fun _ v27 _ => l0.length - (intOf v27).toNat)
        case atStart => exact ⟨0, Nat.zero_le _, rfl, HO, HB⟩
        case round =>
          clear HO HB
          obtain ⟨i, hi, rfl, HO, HB⟩ := hrel
          by_cases hlt : i < l0.length
          · obtain ⟨ad, B0, d0, eA, hx, hl, hC⟩ := at_L1 HR0.out (i : Int) (by omega) (by omega)
            subst eA
            rw [Int.toNat_natCast] at hx
            have hx2 := (HB.out.cell (World.block_lt_of_cell? w _ hx)).trans hx
            have HCC := Aside0.mk (Kd.C_below hC HB.out)
            have HL := Aside0.mk hl
            have hf := flatten_take_le l0 (i + 1)
            rw [flatten_snoc l0 i hlt, List.length_append] at hf
            have HF := Aside0.mk hf
            clear hx hC hl hf
            go_wp2_with (at_builtin; refine Kd.R_append_rows (Kd.int .u8) (w0 := w) w.heap.size rfl (.tmp 31) (.tmp 32) 52 5 (.int .u8 0) 1 rfl Try.underlying52 info5 rfl (by decide) (by omega) u6 ((l0.take i).flatten) (rd_L1 l0 (i : Int)) _ _ _ (fun _ => True) (fun _ => False) rfl rfl ?aO ?aR (fun _ _ h => h) (fun _ h => h.elim) ?aF ?aB ?aS ?aL ?_; (case aR => exact HCC.out); (case aB => exact HB.out); (case aF => exact (fun _ _ => trivial)); (case aO => exact HO.out); (case aS => exact HB.out.size); (case aL => have h1 := HF.out; have h2 := HS.out; omega); intro v2 w2 ho hb hg hat; rw [← flatten_snoc l0 i hlt] at ho; have n0_ := Aside0.mk ho; have n1_ := Aside0.mk hb; clear HO HB; have HO := n0_; have HB := n1_; clear n0_ n1_ ho hb hg hat)
            go_roundw
            case rel => exact ⟨i + 1, by omega, by go_num, HO, HB⟩
            case measure => simp [intOf]; omega
          · obtain rfl : i = l0.length := by omega
            go_wp2
            go_ret
            have h1 := HO.out
            rw [List.take_length] at h1
            exact ⟨_, rfl, h1, HB.out⟩
  · rw [if_neg hb] at h
    cases h

/-! ### bits_Mul32: function 51 -/
def bits_Mul32.f (a0 : Int) (a1 : Int) : Option (Int × Int) := some (((IntKind.u64.wrap ((IntKind.u64.wrap (a0)) * (IntKind.u64.wrap (a1)))) / 4294967296) % 4294967296, (IntKind.u64.wrap ((IntKind.u64.wrap (a0)) * (IntKind.u64.wrap (a1)))) % 4294967296)
set_option maxHeartbeats 8000000 in
set_option maxRecDepth 100000 in
theorem bits_Mul32.calls (a0 : Int) (a1 : Int) (r1 : Int) (r2 : Int) (w : World) (h : bits_Mul32.f a0 a1 = some (r1, r2)) :
    Calls Try.prog 51 #[.int .u32 a0, .int .u32 a1] w fun e w' => e = .returned (.tuple #[.int .u32 r1, .int .u32 r2]) ∧ Drawn0 w w' := by
  have H : (some (((IntKind.u64.wrap ((IntKind.u64.wrap (a0)) * (IntKind.u64.wrap (a1)))) / 4294967296) % 4294967296, (IntKind.u64.wrap ((IntKind.u64.wrap (a0)) * (IntKind.u64.wrap (a1)))) % 4294967296)) = some (r1, r2) := h
  clear h
  simp only [Option.some.injEq, Prod.mk.injEq] at H
  obtain ⟨rfl, rfl⟩ := H
  go_enter Try.func51, Try.ntmps51
  go_wp2
  go_ret2
  exact ⟨by first | rfl | (simp; done) | (simp [*]; done), by repeat (first | exact Drawn0.refl _ | apply Drawn0.step)⟩

/-! ### bits_Mul64: function 52 -/
def bits_Mul64.f (a0 : Int) (a1 : Int) : Option (Int × Int) := some (IntKind.u64.wrap ((IntKind.u64.wrap ((IntKind.u64.wrap ((a0 / 4294967296) * (a1 / 4294967296))) + ((IntKind.u64.wrap ((IntKind.u64.wrap ((a0 / 4294967296) * (Go.bits .and .u64 a1 4294967295))) + ((IntKind.u64.wrap ((Go.bits .and .u64 a0 4294967295) * (Go.bits .and .u64 a1 4294967295))) / 4294967296))) / 4294967296))) + ((IntKind.u64.wrap ((Go.bits .and .u64 (IntKind.u64.wrap ((IntKind.u64.wrap ((a0 / 4294967296) * (Go.bits .and .u64 a1 4294967295))) + ((IntKind.u64.wrap ((Go.bits .and .u64 a0 4294967295) * (Go.bits .and .u64 a1 4294967295))) / 4294967296))) 4294967295) + (IntKind.u64.wrap ((Go.bits .and .u64 a0 4294967295) * (a1 / 4294967296))))) / 4294967296)), IntKind.u64.wrap (a0 * a1))
set_option maxHeartbeats 8000000 in
set_option maxRecDepth 100000 in
theorem bits_Mul64.calls (a0 : Int) (a1 : Int) (r1 : Int) (r2 : Int) (w : World) (h : bits_Mul64.f a0 a1 = some (r1, r2)) :
    Calls Try.prog 52 #[.int .u64 a0, .int .u64 a1] w fun e w' => e = .returned (.tuple #[.int .u64 r1, .int .u64 r2]) ∧ Drawn0 w w' := by
  have H : (some (IntKind.u64.wrap ((IntKind.u64.wrap ((IntKind.u64.wrap ((a0 / 4294967296) * (a1 / 4294967296))) + ((IntKind.u64.wrap ((IntKind.u64.wrap ((a0 / 4294967296) * (Go.bits .and .u64 a1 4294967295))) + ((IntKind.u64.wrap ((Go.bits .and .u64 a0 4294967295) * (Go.bits .and .u64 a1 4294967295))) / 4294967296))) / 4294967296))) + ((IntKind.u64.wrap ((Go.bits .and .u64 (IntKind.u64.wrap ((IntKind.u64.wrap ((a0 / 4294967296) * (Go.bits .and .u64 a1 4294967295))) + ((IntKind.u64.wrap ((Go.bits .and .u64 a0 4294967295) * (Go.bits .and .u64 a1 4294967295))) / 4294967296))) 4294967295) + (IntKind.u64.wrap ((Go.bits .and .u64 a0 4294967295) * (a1 / 4294967296))))) / 4294967296)), IntKind.u64.wrap (a0 * a1))) = some (r1, r2) := h
  clear h
  simp only [Option.some.injEq, Prod.mk.injEq] at H
  obtain ⟨rfl, rfl⟩ := H
  go_enter Try.func52, Try.ntmps52
  go_wp2
  go_ret2
  exact ⟨by first | rfl | (simp; done) | (simp [*]; done), by repeat (first | exact Drawn0.refl _ | apply Drawn0.step)⟩

/-! ### bits_Mul: function 49 -/
def bits_Mul.f (a0 : Int) (a1 : Int) : Option (Int × Int) := (bits_Mul64.f a0 a1).bind fun bt140 => (some (bt140.1, bt140.2))
set_option maxHeartbeats 8000000 in
set_option maxRecDepth 100000 in
theorem bits_Mul.calls (a0 : Int) (a1 : Int) (r1 : Int) (r2 : Int) (w : World) (h : bits_Mul.f a0 a1 = some (r1, r2)) :
    Calls Try.prog 49 #[.int .u64 a0, .int .u64 a1] w fun e w' => e = .returned (.tuple #[.int .u64 r1, .int .u64 r2]) ∧ Drawn0 w w' := by
  have H : ((bits_Mul64.f a0 a1).bind fun bt140 => (some (bt140.1, bt140.2))) = some (r1, r2) := h
  clear h
  replace H := Option.bind_eq_some_iff.mp H
  obtain ⟨⟨t140, t141⟩, A30, H⟩ := H
  replace H : (some (t140, t141)) = some (r1, r2) := H
  have A3 := Aside0.mk A30
  clear A30
  simp only [Option.some.injEq, Prod.mk.injEq] at H
  obtain ⟨rfl, rfl⟩ := H
  go_enter Try.func49, Try.ntmps49
  go_wp2_with (first | ((with_reducible refine gate_callee (f := 52) rfl ?_); refine goesL_ (some 25) rfl rfl Try.func52 (by kernel_rfl) rfl #[.int .u64 a0, .int .u64 a1] rfl (by (try simp only [List.map_toArray, List.map_cons, List.map_nil]); first | done | rfl | (simp only [List.length_drop, List.length_take]; rfl)) ?_; (with_reducible refine (bits_Mul64.calls a0 a1 t140 t141 _ A3.out).mono ?_); rintro e w' ⟨rfl, ⟨nd, rfl⟩⟩; refine ⟨_, rfl, ?_⟩))
  go_ret2
  exact ⟨by first | rfl | (simp; done) | (simp [*]; done), by repeat (first | exact Drawn0.refl _ | apply Drawn0.step)⟩


def ones (k : Nat) : List Int := List.replicate k 1 ++ List.replicate (32 - k) 0
def rowOnes (k : Nat) : List Value := nums .u8 (ones k)
theorem rowOnes_length (k : Nat) (h : k ≤ 32) : (rowOnes k).length = 32 := by simp [rowOnes, nums, ones]; omega
theorem splice_ones {k m : Nat} (h : k + m ≤ 32) : splice (rowOnes k) k (nums .u8 (List.replicate m 1)) = rowOnes (k + m) := by
  have e : rowOnes k = nums .u8 (List.replicate k 1) ++ nums .u8 (List.replicate (32 - k) 0) := by simp [rowOnes, ones, nums]
  have e2 : rowOnes (k + m) = nums .u8 (List.replicate k 1) ++ (nums .u8 (List.replicate m 1) ++ nums .u8 (List.replicate (32 - (k + m)) 0)) := by
    simp only [rowOnes, ones, nums, List.map_append, List.map_replicate]
    rw [← List.append_assoc, List.replicate_append_replicate]
  rw [e2, splice, e]
  have l1 : (nums .u8 (List.replicate k 1)).length = k := by simp [nums]
  have l2 : (nums .u8 (List.replicate m 1)).length = m := by simp [nums]
  rw [List.take_left' l1, l2]
  congr 2
  rw [List.drop_append, l1, List.drop_eq_nil_of_le (by rw [l1]; omega), List.nil_append]
  simp only [nums, ← List.map_drop, List.drop_replicate]
  congr 2
  omega
theorem rowOnes_get {k j : Nat} (h : j < k) (hk : k ≤ 32) : (rowOnes k)[j]? = some (.int .u8 1) := by
  simp only [rowOnes, nums, ones, List.map_append, List.map_replicate]
  rw [List.getElem?_append_left (by simpa using h)]
  simp [h]
def Z32 : Array Value := madeCells #[.int .u8 0] 32
theorem Z32_row : Z32 = (rowOnes 0).toArray := by kernel_rfl
theorem size5 : (Try.prog.info? 5).map (·.size) = some 1 := by kernel_rfl
def poly_Poly_byte_46.f (l0 : List Int) (a1 : Int) : Option (List Int) := if l0 = [1] ∧ a1 = 32 then some (List.replicate 32 1) else none
theorem mul_one : bits_Mul.f 1 32 = some (0, 32) := by decide +kernel
set_option maxHeartbeats 400000 in
set_option maxRecDepth 100000 in
theorem poly_Poly_byte_46.calls (A0 : Option Addr) (c0 : Nat) (l0 : List Int) (a1 : Int) (r : List Int) (w : World) (hr0 : Kd.C (Kd.int .u8) w A0 l0.length l0) (hc0 : l0.length ≤ c0) (h : poly_Poly_byte_46.f l0 a1 = some r) :
    Calls Try.prog 46 #[.slice A0 l0.length c0, .int .i64 a1] w fun e w' => ∃ v0_ : Value, e = .returned (v0_) ∧ Kd.R (Kd.int .u8) 5 w' w.heap.size (fun _ => True) v0_ r ∧ Below w.heap.size w w' := by
  unfold poly_Poly_byte_46.f at h
  by_cases hb : l0 = [1] ∧ a1 = 32
  · rw [if_pos hb] at h
    obtain rfl := Option.some.inj h
    clear h
    obtain ⟨rfl, rfl⟩ := hb
    obtain ⟨ad, eA, hx⟩ := Kd.at_int hr0 0 (by decide) (by decide)
    subst eA
    have HX := Aside0.mk hx
    clear hx hr0 hc0
    have hmk : ∀ W : World, (Instr.makeSlice 52 (.int .i64 32) (.int .i64 32)).run Try.prog W = .ok (.slice (some ⟨W.heap.size, 0, none⟩) 32 32) (W.alloc (.cells Z32 5)) := fun W => print_make 52 5 .u8 1 Try.underlying52 info5 (by decide) 32 (by decide) W
    go_enter Try.func46, Try.ntmps46
    go_wp2_with (first | (go_at_call 49; refine (bits_Mul.calls 1 32 0 32 _ mul_one).mono ?_; rintro e w1 ⟨rfl, ⟨⟨nd, rfl⟩⟩⟩) | ((with_reducible refine gate_builtin (b := .copy) (xs := #[.tmp 31, .tmp 32]) rfl ?_); go_must (refine wpList_copy_splice rfl (.tmp 31) (.tmp 32) 52 52 rfl 5 Try.underlying52 size5 _ _ _ _ _ _ rfl rfl w.heap.size 0 (rowOnes 0) 5 ?hg [.int .u8 1] ?hn ?hpos ?hfit ?h1 w.heap.size w ?hb (Nat.le_refl _) ?_); (case hg => rw [← Z32_row]; exact heap_alloc_new _ _); (case hn => rfl); (case hpos => exact fun _ => ⟨rfl, ad, rfl, fun j v hj => by cases j with | zero => (simp at hj; subst hj; exact (below_alloc (pw_below_drewN (Below.refl _ _) _) _).cell (World.block_lt_of_cell? w _ HX.out) |>.trans HX.out) | succ j => simp at hj⟩); (case hfit => decide); (case h1 => simp [Value.oneCell']); (case hb => exact below_alloc (pw_below_drewN (Below.refl _ _) _) _); intro w2 hg2 hb2))
    have HG2 : Aside0 (w2.heap[w.heap.size]? = some (.cells (rowOnes 1).toArray 5 (0, 0))) := ⟨hg2⟩
    have HB2 := Aside0.mk hb2
    clear hg2 hb2 hmk
    go_loopw [8] (fun v8 wr => ∃ k : Nat, 1 ≤ k ∧ k ≤ 32 ∧ v8 = .int .i64 k ∧ Aside0 (wr.heap[w.heap.size]? = some (.cells (rowOnes k).toArray 5 (0, 0))) ∧ Aside0 (Below w.heap.size w wr)) (fun v8 _ => 32 - (intOf v8).toNat)
    case atStart => exact ⟨1, Nat.le_refl _, by decide, rfl, HG2, HB2⟩
    case round =>
      clear HG2 HB2
      obtain ⟨k, hk1, hk2, rfl, HG, HB⟩ := hrel
      by_cases hlt : k < 32
      · obtain ⟨m, hm⟩ : ∃ m : Nat, m = min k (32 - k) := ⟨_, rfl⟩
        obtain ⟨cs, hcs⟩ : ∃ cs : List Value, cs = nums .u8 (List.replicate m 1) := ⟨_, rfl⟩
        have HCS := Aside0.mk hcs
        have HMM := Aside0.mk hm
        have hm1 : 1 ≤ m := by omega
        have hm2 : k + m ≤ 32 := by omega
        clear hcs hm
        have hcl : cs.length = m := by rw [HCS.out]; simp [nums]
        have HCL := Aside0.mk hcl
        clear hcl
        have hki : ((k : Int) ≤ 32) = True := eq_true (by omega)
        have hne : (32 = k) = False := eq_false (by omega)
        have HGd : Aside0 (wr.drew.heap[w.heap.size]? = some (.cells (rowOnes k).toArray 5 (0, 0))) := ⟨HG.out⟩
        have HBd : Aside0 (Below w.heap.size w wr.drew) := ⟨below_drew HB.out⟩
        go_wp2
        go_region_law (refine step_copy_splice rfl (.tmp 41) (.tmp 44) 52 52 rfl 5 Try.underlying52 size5 (some ⟨w.heap.size, k, none⟩) (some ⟨w.heap.size, 0, none⟩) (32 - k) (32 - k) k 32 (by go_simp; done) (by go_simp; done) w.heap.size k (rowOnes k) 5 HGd.out cs ?hn ?hpos ?hfit ?h1 w.heap.size w HBd.out (Nat.le_refl _) ?_; (case hn => rw [HCL.out, HMM.out]); (case hpos => exact fun _ => ⟨by simp, ⟨w.heap.size, 0, none⟩, by simp, fun j v hj => by rw [HCS.out] at hj; simp [nums, List.getElem?_replicate] at hj; obtain ⟨hj1, rfl⟩ := hj; rw [add_plain, blk_cell HGd.out]; simpa using rowOnes_get (k := k) (by have := HMM.out; omega) hk2⟩); (case hfit => rw [HCL.out]; rw [rowOnes_length k hk2]; omega); (case h1 => rw [HCS.out]; intro v hv; simp [nums] at hv; rw [hv.2]; rfl); intro w4 hg4 hb4; rw [HCL.out])
        have HG4 : Aside0 (w4.heap[w.heap.size]? = some (.cells (rowOnes (k + m)).toArray 5 (0, 0))) := ⟨by rw [← splice_ones hm2, ← HCS.out]; exact hg4⟩
        have HB4 := Aside0.mk hb4
        clear hg4 hb4
        have hwr : IntKind.i64.wrap ((k : Int) + (m : Int)) = (k : Int) + (m : Int) := IntWalk.i64_in _ (by omega)
        rw [hwr]
        clear hwr
        go_simp
        go_wp2
        go_roundw
        case rel => exact ⟨k + m, by omega, hm2, by go_num, HG4, HB4⟩
        case measure => simp [intOf]; omega
      · obtain rfl : k = 32 := by omega
        go_wp2
        go_ret
        have ho : wr.ownsRow w.heap.size 5 1 (.slice (some ⟨w.heap.size, 0, none⟩) 32 32) 32 (nums .u8 (List.replicate 32 1)) :=
          ⟨by simp [nums], .inr ⟨w.heap.size, 32, (rowOnes 32).toArray, rfl, Nat.le_refl _, HG.out, Nat.le_refl _, by decide, by simp [rowOnes_length], by rfl⟩⟩
        exact ⟨_, rfl, Kd.R_of_own ho (fun _ _ => trivial), HB.out⟩
  · rw [if_neg hb] at h
    cases h
end Go.Proofs.Ytfhnakebfiaccaa.P
