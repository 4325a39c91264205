/- The walk of the law CrcZeros, proved by hand: for every slice of bytes and every number it returns true, and what lay in memory lies as it lay. -/
import Derived.Test.YtfhnakebfiaccaaP5
import Derived.Test.YtfhnakebfiaccaaExtC
import Derived.Test.YtfhnakebfiaccaaPureD
namespace Go.Proofs.Ytfhnakebfiaccaa.P
open Go.RowKit Go.Proofs.Ytfhnakebfiaccaa.M Go.Proofs.YtfhnakebfiaccaaW.PrintWords Go.Proofs.YtfhnakebfiaccaaW.PrintLast Go.Proofs.YtfhnakebfiaccaaW.PrintMore
attribute [local go_sem] max2_int min2_int max_two min_two max_three min_three max_four min_four
set_option linter.unusedVariables false
set_option linter.unusedSimpArgs false

/-- The sum of one row, laid in a new block. -/
theorem sum_one {b : List Nat} (hb : ByteN b) (w W : World) (hB : Below w.heap.size w W) (A : Option Addr) (c : Nat) (hC : Kd.C (Kd.int .u8) w A b.length (iN b)) (hc : b.length ≤ c) :
    Calls Try.prog 11 #[.slice (some ⟨W.heap.size, 0, none⟩) 1 1] (W.alloc (.cells #[.slice A b.length c] 24)) fun e w' => e = .returned (.int .u32 ((crcF b : Nat) : Int)) ∧ Below w.heap.size w w' ∧ Below W.heap.size W w' := by
  obtain ⟨k, hk⟩ := (sum_pure (ls := [b]) (fun l hl => by simp at hl; rw [hl]; exact hb) (by simp)).rounds
  have e0 : ([b] : List (List Nat)).flatten = b := by simp
  rw [e0] at hk
  have hb0 : Below W.heap.size W (W.alloc (.cells #[.slice A b.length c] 24)) := below_alloc (Below.refl _ _) _
  have hr : Kd.C (Kd.int .u8) (W.alloc (.cells #[.slice A b.length c] 24)) A b.length (iN b) := Kd.C_alloc (Kd.C_below hC hB) _
  have h1 : Kd.C (Kd.slice 5 (Kd.int .u8)) (W.alloc (.cells #[.slice A b.length c] 24)) (some ⟨W.heap.size, 0, none⟩) [iN b].length [iN b] := by
    refine ⟨rfl, by simp, fun _ => ⟨_, rfl, fun j p hj => ?_⟩⟩
    cases j with
    | succ j => simp at hj
    | zero =>
      have : iN b = p := by simpa using hj
      subst this
      refine ⟨_, rfl, ⟨A, c, rfl, by rw [iN_length]; exact hc, by rw [iN_length]; exact hr⟩, fun i u hi => ?_⟩
      cases i with
      | succ i => simp at hi
      | zero =>
        have e : Value.slice A (iN b).length c = u := by simpa using hi
        rw [add_plain, blk_cell (heap_alloc_new W _), ← e, iN_length]
        rfl
  refine (crc_Sum.calls k (some ⟨W.heap.size, 0, none⟩) 1 [iN b] _ _ h1 (by simp) hk).mono ?_
  rintro e w' ⟨he, hb⟩
  have hb2 : Below W.heap.size W w' := hb0.trans (hb.mono (by simp))
  exact ⟨he, below_then hB hB.size hb2, hb2⟩
theorem zeros_crcF (b : List Nat) (n : Nat) (hn : n ≤ 1048576) : crc_Zeros.f ((crcF b : Nat) : Int) (n : Int) = some ((crcF (b ++ List.replicate n 0) : Nat) : Int) := by
  rw [zeros_pure (crcF_lt b) n hn]
  have h := crcN_lt b (show 4294967295 < 4294967296 by decide)
  have e : 4294967295 - crcF b = crcN 4294967295 b := by unfold crcF; omega
  rw [e, crcF, crcN_append]
theorem zeros_call {b : List Nat} (n : Nat) (hn : n ≤ 1048576) (w W : World) (hB : Below w.heap.size w W) :
    Calls Try.prog 23 #[.int .u32 ((crcF b : Nat) : Int), .int .i64 (n : Int)] W fun e w' => e = .returned (.int .u32 ((crcF (b ++ List.replicate n 0) : Nat) : Int)) ∧ Below w.heap.size w w' ∧ Below W.heap.size W w' := by
  refine (crc_Zeros.calls _ _ _ W (zeros_crcF b n hn)).mono ?_
  rintro e w' ⟨he, hb⟩
  exact ⟨he, below_then hB hB.size hb, hb⟩
theorem zeros_call0 {b : List Nat} (w W : World) (hB : Below w.heap.size w W) :
    Calls Try.prog 23 #[.int .u32 ((crcF b : Nat) : Int), .int .i64 0] W fun e w' => e = .returned (.int .u32 ((crcF b : Nat) : Int)) ∧ Below w.heap.size w w' ∧ Below W.heap.size W w' := by
  have h := zeros_call (b := b) 0 (by decide) w W hB
  rw [List.replicate_zero, List.append_nil] at h
  exact h
theorem fast_call {b : List Nat} (hb : ByteN b) (W : World) (A : Option Addr) (c : Nat) (hC : Kd.C (Kd.int .u8) W A b.length (iN b)) (hc : b.length ≤ c) :
    Calls Try.prog 13 #[.slice A b.length c] W fun e w' => e = .returned (.int .u32 ((crcF b : Nat) : Int)) ∧ Drawn0 W w' := by
  have h := wharfref05_Fast.calls A c (iN b) _ W (by rw [iN_length]; exact hC) (by rw [iN_length]; exact hc) (fast_pure hb)
  rw [iN_length] at h
  exact h
/-- The same, told of a list of ints. -/
theorem sum_oneI {l : List Int} (hb : Bytes l) (w W : World) (hB : Below w.heap.size w W) (A : Option Addr) (c : Nat) (hC : Kd.C (Kd.int .u8) w A l.length l) (hc : l.length ≤ c) :
    Calls Try.prog 11 #[.slice (some ⟨W.heap.size, 0, none⟩) 1 1] (W.alloc (.cells #[.slice A l.length c] 24)) fun e w' => e = .returned (.int .u32 ((crcF (toN l) : Nat) : Int)) ∧ Below w.heap.size w w' ∧ Below W.heap.size W w' := by
  have h := sum_one (byteN_toN hb) w W hB A c (by rw [toN_length, iN_toN hb]; exact hC) (by rw [toN_length]; exact hc)
  rw [toN_length] at h
  exact h
theorem sum_oneD {l : List Int} (hb : Bytes l) (w W : World) (nd : Nat) (hB : Below w.heap.size w (W.drewN nd)) (A : Option Addr) (c : Nat) (hC : Kd.C (Kd.int .u8) w A l.length l) (hc : l.length ≤ c) :
    Calls Try.prog 11 #[.slice (some ⟨W.heap.size, 0, none⟩) 1 1] ((W.drewN nd).alloc (.cells #[.slice A l.length c] 24)) fun e w' => e = .returned (.int .u32 ((crcF (toN l) : Nat) : Int)) ∧ Below w.heap.size w w' ∧ Below W.heap.size (W.drewN nd) w' :=
  sum_oneI hb w (W.drewN nd) hB A c hC hc
theorem fast_callI {l : List Int} (hb : Bytes l) (W : World) (A : Option Addr) (c : Nat) (hC : Kd.C (Kd.int .u8) W A l.length l) (hc : l.length ≤ c) :
    Calls Try.prog 13 #[.slice A l.length c] W fun e w' => e = .returned (.int .u32 ((crcF (toN l) : Nat) : Int)) ∧ Drawn0 W w' := by
  have h := fast_call (byteN_toN hb) W A c (by rw [toN_length, iN_toN hb]; exact hC) (by rw [toN_length]; exact hc)
  rw [toN_length] at h
  exact h
theorem bytes_zeros {l : List Int} (hb : Bytes l) (n : Nat) : Bytes (l ++ List.replicate (n : Int).toNat 0) := by
  intro x hx
  rcases List.mem_append.1 hx with h | h
  · exact hb x h
  · rw [List.eq_of_mem_replicate h]; decide
theorem toN_zeros (l : List Int) (n : Nat) : toN (l ++ List.replicate (n : Int).toNat 0) = toN l ++ List.replicate n 0 := by
  rw [toN_append, Int.toNat_natCast]
  simp [toN]
theorem fast_zerosI {l : List Int} (hb : Bytes l) (n : Nat) {ok : Nat → Prop} (w W : World) (A : Option Addr) (c : Nat) (hR : Kd.R (Kd.int .u8) 5 W w.heap.size ok (.slice A (l ++ List.replicate (n : Int).toNat 0).length c) (l ++ List.replicate (n : Int).toNat 0)) :
    Calls Try.prog 13 #[.slice A (l.length + n) c] W fun e w' => e = .returned (.int .u32 ((crcF (toN l ++ List.replicate n 0) : Nat) : Int)) ∧ Drawn0 W w' := by
  have hr := Kd.R_reads' hR
  have h := fast_callI (bytes_zeros hb n) W A c hr.2.2 hr.2.1
  rw [toN_zeros, List.length_append, List.length_replicate, Int.toNat_natCast] at h
  exact h
set_option maxHeartbeats 800000 in
set_option maxRecDepth 100000 in
theorem zeros_walk (A0 : Option Addr) (c0 : Nat) (b : List Int) (n : Nat) (w : World) (hb : Bytes b) (hn : n < 256) (hr0 : Kd.C (Kd.int .u8) w A0 b.length b) (hc0 : b.length ≤ c0) :
    Calls Try.prog 7 #[.slice A0 b.length c0, .int .u8 (n : Int)] w fun e w' => e = .returned (.bool true) ∧ Below w.heap.size w w' := by
  have HR0 := Aside0.mk hr0
  have HC0 := Aside0.mk hc0
  have HBY := Aside0.mk hb
  have HB := Aside0.mk (Below.refl w.heap.size w)
  clear hr0 hc0 hb
  by_cases hl : b.length > 1000
  · have hb0 : decide ((b.length : Int) > 1000) = true := decide_eq_true (by omega)
    have hb1 : decide ((1000 : Int) < (b.length : Int)) = true := decide_eq_true (by omega)
    go_enter Try.func7, Try.ntmps7
    go_wp2_with (go_at_call 8; refine (wharflaw05_awake.calls true _ rfl).mono ?_; rintro e w1 ⟨rfl, hb⟩; have HB2 := Aside0.mk (below_then HB.out HB.out.size hb); clear HB; have HB := HB2; clear HB2 hb)
    go_ret
    exact ⟨rfl, HB.out⟩
  · have hb1 : decide ((1000 : Int) < (b.length : Int)) = false := decide_eq_false (by omega)
    go_enter Try.func7, Try.ntmps7
    go_wp2_with (first | (go_at_call 8; refine (wharflaw05_awake.calls true _ rfl).mono ?_; rintro e w1 ⟨rfl, hb⟩; have HB2 := Aside0.mk (below_then HB.out HB.out.size hb); clear HB; have HB := HB2; clear HB2 hb) | (go_at_call 11; (first | (with_reducible refine (sum_oneI HBY.out w _ HB.out A0 c0 HR0.out HC0.out).mono ?_) | (with_reducible refine (sum_oneD HBY.out w _ _ HB.out A0 c0 HR0.out HC0.out).mono ?_)); rintro e w1 ⟨rfl, hb, hb2⟩; (try (have HV2 := Aside0.mk (Kd.R_below HV.out hb2); clear HV; have HV := HV2; clear HV2)); have HB2 := Aside0.mk hb; clear HB; have HB := HB2; clear HB2 hb hb2) | (go_at_call 23; with_reducible refine (zeros_call0 w _ HB.out).mono ?_; rintro e w1 ⟨rfl, hb, hb2⟩; have HB2 := Aside0.mk hb; clear HB; have HB := HB2; clear HB2 hb hb2) | (go_at_call 23; with_reducible refine (zeros_call n (by omega) w _ HB.out).mono ?_; rintro e w1 ⟨rfl, hb, hb2⟩; have HB2 := Aside0.mk hb; clear HB; have HB := HB2; clear HB2 hb hb2) | ((with_reducible refine gate_dst (N := 19) rfl ?_); refine Kd.R_lit (Kd.int .u8) _ 5 ?hg (N := 19) ?hd (xs := ([] : List Int)) (inner := []) (ok := fun _ => True) (okp := fun _ => True) ?hr ?hp (fun _ hk => hk) trivial (Below.refl _ _) (Nat.le_refl _) (by simp) ?_; (case hd => rfl); (case hg => rfl); (case hr => first | (go_simp; done) | (go_simp; rfl)); (case hp => exact (Reps.none _ _)); intro v19 w3 ho4 hb hg_ hnew_; clear hg_ hnew_; have HV := Aside0.mk (Kd.R_lower ho4 HB.out.size); have HB2 := Aside0.mk (below_then HB.out HB.out.size hb); clear HB; have HB := HB2; clear HB2 ho4 hb) | ((with_reducible refine gate_builtin (b := .append) (xs := #[.tmp 19, .tmp 20]) rfl ?_); at_builtin; refine Kd.R_append_rows (Kd.int .u8) (w0 := w) w.heap.size rfl (.tmp 19) (.tmp 20) 24 5 (.int .u8 0) 1 rfl Try.underlying24 info5 rfl (by decide) (by omega) v19 [] b _ _ _ (fun _ => True) (fun _ => False) rfl rfl ?aO ?aR (fun _ _ h => h) (fun _ h => h.elim) ?aF ?aB ?aS ?aL ?_; (case aR => exact Kd.C_below HR0.out HB.out); (case aB => exact HB.out); (case aF => exact (fun _ _ => trivial)); (case aO => exact HV.out); (case aS => exact HB.out.size); (case aL => rw [List.length_nil]; omega); intro v21 w5 ho hb hg hat; rw [List.nil_append] at ho; have HV2 := Aside0.mk ho; have HB2 := Aside0.mk hb; clear HV HB; have HV := HV2; have HB := HB2; clear HV2 HB2 ho hb hg hat) | ((with_reducible refine gate_builtin (b := .append) (xs := #[.tmp 21, .tmp 23]) rfl ?_); at_builtin; refine Kd.R_append_zeros (Kd.int .u8) (w0 := w) w.heap.size rfl (.tmp 21) (.tmp 23) 24 3 5 (.int .u8 0) 1 rfl Try.underlying24 Try.underlying3 info5 rfl (by decide) (by omega) v21 b 0 (n : Int) (fun _ => True) rfl rfl rfl ?aF ?aO (by omega) ?aB ?aS ?aL ?_; (case aF => exact (fun _ _ => trivial)); (case aO => exact HV.out); (case aB => exact HB.out); (case aS => exact HB.out.size); (case aL => rw [Int.toNat_natCast]; omega); intro v24 w6 ho hb hg hat; obtain ⟨A24, c24, eA24⟩ := Kd.R_slice ho; have HV2 := Aside0.mk ho; have HB2 := Aside0.mk hb; clear HV HB; have HV := HV2; have HB := HB2; clear HV2 HB2 ho hb hg hat; subst eA24) | (go_at_call 13; (first | (with_reducible refine (fast_zerosI HBY.out n w _ A24 c24 HV.out).mono ?_) | (with_reducible refine (fast_callI HBY.out _ A0 c0 (Kd.C_below HR0.out HB.out) HC0.out).mono ?_)); rintro e w1 ⟨rfl, ⟨⟨nd, rfl⟩⟩⟩; have HB2 := Aside0.mk (pw_below_drewN HB.out nd); clear HB; have HB := HB2; clear HB2))
    go_ret
    exact ⟨rfl, HB.out⟩
/-- The walk, as the row hands its arguments over. -/
theorem zeros_law (a0 : Option Addr) (len0 cap0 : Nat) (z0 : List Int) (a1 : Int) (w : World) (w0 : (a0 = none ∧ len0 = 0 ∧ cap0 = 0 ∧ z0 = []) ∨ ∃ x, a0 = some x ∧ len0 ≤ cap0 ∧ cap0 ≤ maxLen ∧ z0.length = cap0 ∧ (∀ i, i < z0.length → w.cell? (x.add i) = some (.int .u8 (z0.getD i 0))) ∧ ∀ n ∈ z0, (Lit.int .u8 n).wf = true) (w1 : (Lit.int .u8 a1).wf = true) :
    Calls Try.prog 7 #[.slice a0 len0 cap0, .int .u8 a1] w fun e w' => e = .returned (.bool true) ∧ Below w.heap.size w w' := by
  obtain ⟨l0, rfl, hr0, hm0, hw0, hc0⟩ := ReadsInt.ofRowC w0
  have hb : Bytes l0 := by
    intro x hx
    have := hw0 x hx
    simp [Lit.wf, IntKind.min, IntKind.max, IntKind.signed, IntKind.bits] at this
    omega
  simp [Lit.wf, IntKind.min, IntKind.max, IntKind.signed, IntKind.bits] at w1
  obtain ⟨n, rfl⟩ : ∃ n : Nat, a1 = n := ⟨a1.toNat, by omega⟩
  exact zeros_walk a0 cap0 l0 n w hb (by omega) (Kd.C_of_reads (d := (0 : Int)) (h1 := fun _ => rfl) hr0) hc0
end Go.Proofs.Ytfhnakebfiaccaa.P
