/- The contract of the laws' awake, proved by hand: it returns true, whatever lies in memory. -/
import Derived.Test.YtfhnakebfiaccaaPureB
import Derived.Test.YtfhnakebfiaccaaPureC
import Derived.Lib.SlBytesConst
namespace Go.Proofs.Ytfhnakebfiaccaa.P
open Go.RowKit Go.Proofs.Ytfhnakebfiaccaa.M Go.Proofs.YtfhnakebfiaccaaW.PrintWords Go.Proofs.YtfhnakebfiaccaaW.PrintLast Go.Proofs.YtfhnakebfiaccaaW.PrintMore
set_option linter.unusedVariables false
set_option linter.unusedSimpArgs false

/-- A block that holds a list of numbers reads as it. -/
theorem C_block {W : World} {g : Nat} {xs : List Int} {t : TypeId} {fr : Nat × Nat} (hg : W.heap[g]? = some (.cells (nums .u8 xs).toArray t fr)) (hm : xs.length ≤ 9223372036854775807) : Kd.C (Kd.int .u8) W (some ⟨g, 0, none⟩) xs.length xs := by
  refine ⟨rfl, hm, fun _ => ⟨_, rfl, fun j p hj => ⟨[.int .u8 p], rfl, rfl, fun i u hi => ?_⟩⟩⟩
  cases i with
  | succ i => simp at hi
  | zero =>
    have e : Value.int .u8 p = u := by simpa using hi
    rw [add_plain, cell_of_row W g _ _ _ _ hg, ← e]
    have ej : j * (Kd.int .u8).sz = j := Nat.mul_one j
    simp [nums, ej, hj]
def Z12 : Array Value := madeCells #[.int .u8 0] 12
def Z11 : Array Value := madeCells #[.int .u8 0] 11
def S12 : List Nat := sealN (List.replicate 12 0)
theorem S12_length : S12.length = 12 := by rw [S12, sealN, lay4_length]; rfl
theorem S12_bytes : ByteN S12 := by
  have h : ∀ x ∈ S12, x < 256 := by decide +kernel
  exact h
theorem S12_sealed : sealedN S12 = true := by decide +kernel
theorem seal_call12 (w W : World) (hB : Below w.heap.size w W) :
    Calls Try.prog 15 #[.slice (some ⟨W.heap.size, 0, none⟩) 12 12] (W.alloc (.cells Z12 5)) fun e w' => ∃ (A : Option Addr) (c : Nat), e = .returned (.tuple #[.slice A 12 c, .bool true]) ∧ Kd.R (Kd.int .u8) 5 w' w.heap.size (fun _ => True) (.slice A 12 c) (iN S12) ∧ Below w.heap.size w w' := by
  obtain ⟨k, hk⟩ := (seal_pure (byteN_replicate 12) (by simp) (by simp)).rounds
  have e0 : iN (List.replicate 12 0) = List.replicate 12 0 := iN_replicate 12 0
  have hC : Kd.C (Kd.int .u8) (W.alloc (.cells Z12 5)) (some ⟨W.heap.size, 0, none⟩) (iN (List.replicate 12 0)).length (iN (List.replicate 12 0)) := by
    refine C_block (t := 5) (fr := (0, 0)) ?_ (by simp [iN])
    rw [heap_alloc_new]
    exact congrArg (fun z => some (Obj.cells z 5 (0, 0))) (by kernel_rfl)
  refine (crc_Seal.calls k (some ⟨W.heap.size, 0, none⟩) 12 (iN (List.replicate 12 0)) _ _ _ hC (by simp [iN]) hk).mono ?_
  rintro e w' ⟨v, rfl, hv, hb⟩
  have hb2 : Below W.heap.size W w' := (below_alloc (Below.refl _ _) _).trans (hb.mono (by simp))
  obtain ⟨A, c, ev⟩ := Kd.R_slice hv
  have el : (iN (sealN (List.replicate 12 0))).length = 12 := by rw [iN_length]; exact S12_length
  rw [el] at ev
  subst ev
  exact ⟨A, c, rfl, Kd.R_lower hv (Nat.le_trans hB.size (by simp)), below_then hB hB.size hb2⟩
theorem seal_call11 (w W : World) (hB : Below w.heap.size w W) :
    Calls Try.prog 15 #[.slice (some ⟨W.heap.size, 0, none⟩) 11 11] (W.alloc (.cells Z11 5)) fun e w' => ∃ v : Value, e = .returned (.tuple #[v, .bool false]) ∧ Below w.heap.size w w' ∧ Below W.heap.size W w' := by
  have hk := seal_short (byteN_replicate 11) (by simp) 0
  have hC : Kd.C (Kd.int .u8) (W.alloc (.cells Z11 5)) (some ⟨W.heap.size, 0, none⟩) (iN (List.replicate 11 0)).length (iN (List.replicate 11 0)) := by
    refine C_block (t := 5) (fr := (0, 0)) ?_ (by simp [iN])
    rw [heap_alloc_new]
    exact congrArg (fun z => some (Obj.cells z 5 (0, 0))) (by kernel_rfl)
  refine (crc_Seal.calls 0 (some ⟨W.heap.size, 0, none⟩) 11 (iN (List.replicate 11 0)) _ _ _ hC (by simp [iN]) hk).mono ?_
  rintro e w' ⟨v, rfl, hv, hb⟩
  have hb2 : Below W.heap.size W w' := (below_alloc (Below.refl _ _) _).trans (hb.mono (by simp))
  exact ⟨v, rfl, below_then hB hB.size hb2, hb2⟩
theorem packet_nil (w W : World) (hB : Below w.heap.size w W) :
    Calls Try.prog 14 #[.slice none 0 0] W fun e w' => e = .returned (.tuple #[.int .u32 0, .bool false]) ∧ Below w.heap.size w w' ∧ Below W.heap.size W w' := by
  have hk : crc_Packet.f [] = some (0, false) := by decide +kernel
  refine (crc_Packet.calls none 0 [] 0 false W (Kd.C_nil _ _) (Nat.le_refl _) hk).mono ?_
  rintro e w' ⟨rfl, hb⟩
  exact ⟨rfl, below_then hB hB.size hb, hb⟩
theorem sum_nil (w W : World) (hB : Below w.heap.size w W) :
    Calls Try.prog 11 #[.slice none 0 0] W fun e w' => e = .returned (.int .u32 0) ∧ Below w.heap.size w w' ∧ Below W.heap.size W w' := by
  obtain ⟨k, hk⟩ := (sum_pure (ls := []) (fun l hl => by cases hl) (by simp)).rounds
  have e0 : crcF ([] : List (List Nat)).flatten = 0 := by decide +kernel
  rw [e0] at hk
  refine (crc_Sum.calls k none 0 [] 0 W (Kd.C_nil _ _) (Nat.le_refl _) hk).mono ?_
  rintro e w' ⟨rfl, hb⟩
  exact ⟨rfl, below_then hB hB.size hb, hb⟩
theorem sealed_nil (w W : World) (hB : Below w.heap.size w W) :
    Calls Try.prog 16 #[.slice none 0 0] W fun e w' => e = .returned (.bool false) ∧ Below w.heap.size w w' ∧ Below W.heap.size W w' := by
  obtain ⟨k, hk⟩ := (sealed_pure (b := []) (fun l hl => by cases hl) (by simp)).rounds
  have e0 : sealedN [] = false := by decide +kernel
  rw [e0] at hk
  refine (crc_Sealed.calls k none 0 [] false W (Kd.C_nil _ _) (Nat.le_refl _) hk).mono ?_
  rintro e w' ⟨rfl, hb⟩
  exact ⟨rfl, below_then hB hB.size hb, hb⟩
theorem sealed_12 (w W : World) (hB : Below w.heap.size w W) (A : Option Addr) (c : Nat) (hR : Kd.R (Kd.int .u8) 5 W w.heap.size (fun _ => True) (.slice A 12 c) (iN S12)) :
    Calls Try.prog 16 #[.slice A 12 c] W fun e w' => e = .returned (.bool true) ∧ Below w.heap.size w w' ∧ Below W.heap.size W w' := by
  obtain ⟨k, hk⟩ := (sealed_pure S12_bytes (by rw [S12_length]; decide)).rounds
  rw [S12_sealed] at hk
  have hr := Kd.R_reads' hR
  have el : (iN S12).length = 12 := by rw [iN_length]; exact S12_length
  have hc := crc_Sealed.calls k A c (iN S12) true W hr.2.2 (by rw [el]; exact hr.2.1) hk
  rw [el] at hc
  refine hc.mono ?_
  rintro e w' ⟨rfl, hb⟩
  exact ⟨rfl, below_then hB hB.size hb, hb⟩

/-- The block of a constant, and its mark. -/
def row (xs : List Int) : Array Value := (nums .u8 xs).toArray
theorem marked_reads (W : World) (xs : List Int) (hm : xs.length ≤ 9223372036854775807) : Kd.C (Kd.int .u8) (W.alloc (.cells (row xs) 5 ((row xs).size, (row xs).size + 1))) (some ⟨W.heap.size, 0, none⟩) xs.length xs :=
  C_block (heap_alloc_new W _) hm
def d1 : List Int := [49, 50, 51, 52]
def d2 : List Int := [53, 54, 55, 56, 57]
def d3 : List Int := [49, 50, 51, 52, 53, 54, 55, 56, 57]
theorem sum_digits (w W : World) (hB : Below w.heap.size w W) :
    Calls Try.prog 11 #[.slice (some ⟨W.heap.size + 1 + 1, 0, none⟩) 2 2] (((W.alloc (.cells (row d1) 5 (4, 5))).alloc (.cells (row d2) 5 (5, 6))).alloc (.cells #[.slice (some ⟨W.heap.size, 0, none⟩) 4 4, .slice (some ⟨W.heap.size + 1, 0, none⟩) 5 5] 24))
      fun e w' => e = .returned (.int .u32 3808858755) ∧ Below w.heap.size w w' ∧ Below W.heap.size W w' := by
  obtain ⟨k, hk⟩ := (sum_pure (ls := [[49, 50, 51, 52], [53, 54, 55, 56, 57]]) (by
    have h : ∀ l ∈ [[49, 50, 51, 52], [53, 54, 55, 56, 57]], ∀ x ∈ l, x < 256 := by decide
    exact h) (by simp)).rounds
  have e0 : crcF ([[49, 50, 51, 52], [53, 54, 55, 56, 57]] : List (List Nat)).flatten = 3808858755 := by decide +kernel
  rw [e0] at hk
  obtain ⟨W1, hW1⟩ : ∃ W1, W1 = W.alloc (.cells (row d1) 5 (4, 5)) := ⟨_, rfl⟩
  obtain ⟨W2, hW2⟩ : ∃ W2, W2 = W1.alloc (.cells (row d2) 5 (5, 6)) := ⟨_, rfl⟩
  have s1 : W1.heap.size = W.heap.size + 1 := by rw [hW1]; simp
  have s2 : W2.heap.size = W.heap.size + 1 + 1 := by rw [hW2]; simp [s1]
  have b2 : Below W.heap.size W W2 := by rw [hW2, hW1]; exact below_alloc (below_alloc (Below.refl _ _) _) _
  have b3 : Below W.heap.size W (W2.alloc (.cells #[.slice (some ⟨W.heap.size, 0, none⟩) 4 4, .slice (some ⟨W.heap.size + 1, 0, none⟩) 5 5] 24)) := below_alloc b2 _
  have r1 : Kd.C (Kd.int .u8) (W2.alloc (.cells #[.slice (some ⟨W.heap.size, 0, none⟩) 4 4, .slice (some ⟨W.heap.size + 1, 0, none⟩) 5 5] 24)) (some ⟨W.heap.size, 0, none⟩) d1.length d1 := by
    have h : Kd.C (Kd.int .u8) W1 (some ⟨W.heap.size, 0, none⟩) d1.length d1 := by rw [hW1]; exact marked_reads W d1 (by decide)
    exact Kd.C_alloc (by rw [hW2]; exact Kd.C_alloc h _) _
  have r2 : Kd.C (Kd.int .u8) (W2.alloc (.cells #[.slice (some ⟨W.heap.size, 0, none⟩) 4 4, .slice (some ⟨W.heap.size + 1, 0, none⟩) 5 5] 24)) (some ⟨W.heap.size + 1, 0, none⟩) d2.length d2 := by
    have h : Kd.C (Kd.int .u8) W2 (some ⟨W1.heap.size, 0, none⟩) d2.length d2 := by rw [hW2]; exact marked_reads W1 d2 (by decide)
    rw [s1] at h
    exact Kd.C_alloc h _
  have hg := heap_alloc_new W2 (.cells #[.slice (some ⟨W.heap.size, 0, none⟩) 4 4, .slice (some ⟨W.heap.size + 1, 0, none⟩) 5 5] 24)
  rw [s2] at hg
  have hC : Kd.C (Kd.slice 5 (Kd.int .u8)) (W2.alloc (.cells #[.slice (some ⟨W.heap.size, 0, none⟩) 4 4, .slice (some ⟨W.heap.size + 1, 0, none⟩) 5 5] 24)) (some ⟨W.heap.size + 1 + 1, 0, none⟩) [d1, d2].length [d1, d2] := by
    refine ⟨rfl, by simp, fun _ => ⟨_, rfl, fun j p hj => ?_⟩⟩
    match j, hj with
    | 0, hj =>
      have e : d1 = p := by simpa using hj
      subst e
      refine ⟨[.slice (some ⟨W.heap.size, 0, none⟩) 4 4], rfl, ⟨some ⟨W.heap.size, 0, none⟩, 4, rfl, by decide, r1⟩, fun i u hi => ?_⟩
      cases i with
      | succ i => simp at hi
      | zero =>
        have e : Value.slice (some ⟨W.heap.size, 0, none⟩) 4 4 = u := by simpa using hi
        rw [add_plain, blk_cell hg, ← e]
        rfl
    | 1, hj =>
      have e : d2 = p := by simpa using hj
      subst e
      refine ⟨[.slice (some ⟨W.heap.size + 1, 0, none⟩) 5 5], rfl, ⟨some ⟨W.heap.size + 1, 0, none⟩, 5, rfl, by decide, r2⟩, fun i u hi => ?_⟩
      cases i with
      | succ i => simp at hi
      | zero =>
        have e : Value.slice (some ⟨W.heap.size + 1, 0, none⟩) 5 5 = u := by simpa using hi
        rw [add_plain, blk_cell hg, ← e]
        rfl
    | j + 2, hj => simp at hj
  rw [← hW1, ← hW2]
  refine (crc_Sum.calls k (some ⟨W.heap.size + 1 + 1, 0, none⟩) 2 [d1, d2] _ _ hC (by simp) hk).mono ?_
  rintro e w' ⟨he, hb⟩
  have hb2 : Below W.heap.size W w' := b3.trans (hb.mono b3.size)
  exact ⟨he, below_then hB hB.size hb2, hb2⟩
theorem slow_digits (w W : World) (hB : Below w.heap.size w W) :
    Calls Try.prog 12 #[.slice (some ⟨W.heap.size, 0, none⟩) 9 9] (W.alloc (.cells (row d3) 5 (9, 10))) fun e w' => e = .returned (.int .u32 3808858755) ∧ Below w.heap.size w w' ∧ Below W.heap.size W w' := by
  obtain ⟨k, hk⟩ := (slow_pure (b := [49, 50, 51, 52, 53, 54, 55, 56, 57]) (by
    have h : ∀ x ∈ [49, 50, 51, 52, 53, 54, 55, 56, 57], x < 256 := by decide
    exact h) (by decide)).rounds
  have e0 : crcF [49, 50, 51, 52, 53, 54, 55, 56, 57] = 3808858755 := by decide +kernel
  rw [e0] at hk
  refine (crc_Slow.calls k (some ⟨W.heap.size, 0, none⟩) 9 d3 _ _ (marked_reads W d3 (by decide)) (by decide) hk).mono ?_
  rintro e w' ⟨he, hb⟩
  have hb2 : Below W.heap.size W w' := (below_alloc (Below.refl _ _) _).trans (hb.mono (by simp))
  exact ⟨he, below_then hB hB.size hb2, hb2⟩
theorem sum_digits2 (w W : World) (hB : Below w.heap.size w W) :
    Calls Try.prog 11 #[.slice (some ⟨W.heap.size + 1 + 1, 0, none⟩) 2 2] (((W.alloc (.cells #[.int .u8 49, .int .u8 50, .int .u8 51, .int .u8 52] 5 (4, 5))).alloc (.cells #[.int .u8 53, .int .u8 54, .int .u8 55, .int .u8 56, .int .u8 57] 5 (5, 6))).alloc (.cells #[.slice (some ⟨W.heap.size, 0, none⟩) 4 4, .slice (some ⟨W.heap.size + 1, 0, none⟩) 5 5] 24))
      fun e w' => e = .returned (.int .u32 3808858755) ∧ Below w.heap.size w w' ∧ Below W.heap.size W w' := sum_digits w W hB
theorem slow_digits2 (w W : World) (hB : Below w.heap.size w W) :
    Calls Try.prog 12 #[.slice (some ⟨W.heap.size, 0, none⟩) 9 9] (W.alloc (.cells #[.int .u8 49, .int .u8 50, .int .u8 51, .int .u8 52, .int .u8 53, .int .u8 54, .int .u8 55, .int .u8 56, .int .u8 57] 5 (9, 10))) fun e w' => e = .returned (.int .u32 3808858755) ∧ Below w.heap.size w w' ∧ Below W.heap.size W w' := slow_digits w W hB
def wharflaw05_awake.f : Option Bool := some true
set_option maxHeartbeats 400000 in
set_option maxRecDepth 100000 in
theorem wharflaw05_awake.calls (r : Bool) (w : World) (h : wharflaw05_awake.f = some r) :
    Calls Try.prog 8 #[] w fun e w' => e = .returned (.bool r) ∧ Below w.heap.size w w' := by
  obtain rfl := Option.some.inj h
  clear h
  have hm12 : ∀ W : World, (Instr.makeSlice 24 (.int .i64 12) (.int .i64 12)).run Try.prog W = .ok (.slice (some ⟨W.heap.size, 0, none⟩) 12 12) (W.alloc (.cells Z12 5)) := fun W => print_make 24 5 .u8 1 Try.underlying24 info5 (by decide) 12 (by decide) W
  have hm11 : ∀ W : World, (Instr.makeSlice 24 (.int .i64 11) (.int .i64 11)).run Try.prog W = .ok (.slice (some ⟨W.heap.size, 0, none⟩) 11 11) (W.alloc (.cells Z11 5)) := fun W => print_make 24 5 .u8 1 Try.underlying24 info5 (by decide) 11 (by decide) W
  have kc := fun (w : World) (C : Array Value) (n c : Nat) => Lib.run_convert_bytes_const (P := Try.prog) w 24 5 C n c Try.underlying24 Try.underlying5
  have kc2 : ∀ (w : World) (o : Obj) (C : Array Value) (n c : Nat), (convert 24 24 (.slice (some ⟨w.heap.size + 1, 0, none⟩) n c)).run Try.prog ((w.alloc o).alloc (.cells C 5)) = .ok (.slice (some ⟨w.heap.size + 1, 0, none⟩) n c) ((w.alloc o).alloc (.cells C 5 (C.size, C.size + 1))) := fun w o C n c => by
    have h := kc (w.alloc o) C n c
    rw [World.size_alloc] at h
    exact h
  have HB := Aside0.mk (Below.refl w.heap.size w)
  go_enter Try.func8, Try.ntmps8
  go_wp2_with (first | (go_at_call 15; (first | (with_reducible refine (seal_call12 w _ HB.out).mono ?_; rintro e w1 ⟨A, c, rfl, hR, hb⟩; have HR := Aside0.mk hR; clear HB; have HB := Aside0.mk hb; clear hR hb) | (with_reducible refine (seal_call11 w _ HB.out).mono ?_; rintro e w1 ⟨v11, rfl, hb, hb2⟩; have HR2 := Aside0.mk (Kd.R_below HR.out hb2); clear HR HB; have HR := HR2; have HB := Aside0.mk hb; clear HR2 hb hb2))) | (go_at_call 14; with_reducible refine (packet_nil w _ HB.out).mono ?_; rintro e w1 ⟨rfl, hb, hb2⟩; have HR2 := Aside0.mk (Kd.R_below HR.out hb2); clear HR HB; have HR := HR2; have HB := Aside0.mk hb; clear HR2 hb hb2) | (go_at_call 11; (first | (with_reducible refine (sum_nil w _ HB.out).mono ?_; rintro e w1 ⟨rfl, hb, hb2⟩; have HR2 := Aside0.mk (Kd.R_below HR.out hb2); clear HR HB; have HR := HR2; have HB := Aside0.mk hb; clear HR2 hb hb2) | (with_reducible refine (sum_digits2 w _ HB.out).mono ?_; rintro e w1 ⟨rfl, hb, hb2⟩; have HR2 := Aside0.mk (Kd.R_below HR.out hb2); clear HR HB; have HR := HR2; have HB := Aside0.mk hb; clear HR2 hb hb2))) | (go_at_call 12; with_reducible refine (slow_digits2 w _ HB.out).mono ?_; rintro e w1 ⟨rfl, hb, hb2⟩; have HR2 := Aside0.mk (Kd.R_below HR.out hb2); clear HR HB; have HR := HR2; have HB := Aside0.mk hb; clear HR2 hb hb2) | (go_at_call 16; (first | (with_reducible refine (sealed_nil w _ HB.out).mono ?_; rintro e w1 ⟨rfl, hb, hb2⟩; have HB2 := Aside0.mk hb; clear HB; have HB := HB2; clear HB2 hb hb2) | (with_reducible refine (sealed_12 w _ HB.out A c HR.out).mono ?_; rintro e w1 ⟨rfl, hb, hb2⟩; have HB2 := Aside0.mk hb; clear HB; have HB := HB2; clear HB2 hb hb2))))
  go_ret
  exact ⟨rfl, HB.out⟩
end Go.Proofs.Ytfhnakebfiaccaa.P
