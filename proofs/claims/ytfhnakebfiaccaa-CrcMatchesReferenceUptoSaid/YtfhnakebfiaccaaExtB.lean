/- The contracts of crc.Packet, poly.Add (of two polynomials) and poly.Generator, proved by hand: each Go function comes to what the Lean function beside it tells, wherever that one tells something. -/
import Derived.Test.YtfhnakebfiaccaaPureA
import Derived.Deep.RegionWith
import Derived.IntWalk
namespace Go.Proofs.Ytfhnakebfiaccaa.P
open Go.RowKit Go.Proofs.Ytfhnakebfiaccaa.M Go.Proofs.YtfhnakebfiaccaaW.PrintWords Go.Proofs.YtfhnakebfiaccaaW.PrintLast Go.Proofs.YtfhnakebfiaccaaW.PrintMore
attribute [local go_sem] max2_int min2_int max_two min_two max_three min_three max_four min_four
set_option linter.unusedVariables false
set_option linter.unusedSimpArgs false

/-- Three rows laid side by side in a new block. -/
theorem C_three {w : World} {g : Nat} {a b c : List Int} {A B C : Option Addr} {ca cb cc : Nat} (hg : w.heap[g]? = some (.cells #[.slice A a.length ca, .slice B b.length cb, .slice C c.length cc] 24 (0, 0)))
    (ha : Kd.C (Kd.int .u8) w A a.length a) (hb : Kd.C (Kd.int .u8) w B b.length b) (hc : Kd.C (Kd.int .u8) w C c.length c) (la : a.length ≤ ca) (lb : b.length ≤ cb) (lc : c.length ≤ cc) :
    Kd.C (Kd.slice 5 (Kd.int .u8)) w (some ⟨g, 0, none⟩) [a, b, c].length [a, b, c] := by
  refine ⟨rfl, by simp only [List.length_cons, List.length_nil]; decide, fun _ => ⟨_, rfl, fun j p hj => ?_⟩⟩
  have hcell : ∀ m v, (#[Value.slice A a.length ca, .slice B b.length cb, .slice C c.length cc])[m]? = some v → ∀ i u, ([v] : List Value)[i]? = some u → w.cell? ((⟨g, 0, none⟩ : Addr).add (m * 1 + i)) = some u := by
    intro m v hm i u hi
    cases i with
    | succ i => simp at hi
    | zero =>
      have : v = u := by simpa using hi
      subst this
      rw [add_plain, blk_cell hg]
      simpa using hm
  match j, hj with
  | 0, hj =>
    have : a = p := by simpa using hj
    subst this
    exact ⟨_, rfl, ⟨A, ca, rfl, la, ha⟩, hcell 0 _ rfl⟩
  | 1, hj =>
    have : b = p := by simpa using hj
    subst this
    exact ⟨_, rfl, ⟨B, cb, rfl, lb, hb⟩, hcell 1 _ rfl⟩
  | 2, hj =>
    have : c = p := by simpa using hj
    subst this
    exact ⟨_, rfl, ⟨C, cc, rfl, lc, hc⟩, hcell 2 _ rfl⟩
  | j + 3, hj => simp at hj

def Z4 : Array Value := madeCells #[.int .u8 0] 4
theorem Z4_reads {W : World} {g : Nat} (hg : W.heap[g]? = some (.cells Z4 5 (0, 0))) : Kd.C (Kd.int .u8) W (some ⟨g, 0, none⟩) (List.replicate 4 (0 : Int)).length (List.replicate 4 0) := by
  have ho : W.ownsRow 0 5 1 (.slice (some ⟨g, 0, none⟩) 4 4) 4 (nums .u8 (List.replicate 4 0)) :=
    ⟨by simp [nums], .inr ⟨g, 4, Z4, rfl, Nat.zero_le _, hg, Nat.le_refl _, by decide, by kernel_rfl, by kernel_rfl⟩⟩
  have := Kd.R_reads' (Kd.R_of_own (h1 := fun _ => rfl) (ok := fun _ => True) ho (fun _ _ => trivial))
  exact this.2.2
theorem cut_run (A0 : Option Addr) (n c0 m : Nat) (h : m ≤ n) : ∀ W : World, (Instr.slice 24 (.slice A0 n c0) (some (.int .i64 (m : Int))) none none).run Try.prog W = .ok (.slice (if c0 = m then A0 else A0.map (·.add m)) (n - m) (c0 - m)) W := by
  intro W
  have hel : Try.prog.elem 24 = 5 := by simp [Program.elem, Try.underlying24]
  have hu : Try.prog.underlying 24 = some (.slice (Try.prog.elem 24)) := by rw [hel]; exact Try.underlying24
  obtain ⟨i, hi, hi2⟩ := Option.map_eq_some_iff.1 info5
  have hsz : i.size = 1 := by simp only [Prod.mk.injEq] at hi2; exact hi2.2.1
  rw [run_slice_l W 24 A0 n c0 hu .i64 (m : Int) (Int.natCast_nonneg _) (by omega), hel]
  simp [sizeOf, typeInfo, hi, hsz, sliced, Result.andThen]

theorem packet_call (k : Nat) (A0 A2 : Option Addr) (c0 : Nat) (l0 : List Int) (r : Int) (w : World) (hr0 : Kd.C (Kd.int .u8) w A0 l0.length l0) (hc0 : l0.length ≤ c0) (h12 : 12 ≤ l0.length) (h : crc_Sum.f k [l0.take 8, List.replicate 4 0, l0.drop 12] = some r)
    (hA2 : (if c0 = 12 then A0 else A0.map (·.add 12)) = A2) :
    Calls Try.prog 11 #[.slice (some ⟨w.heap.size + 1, 0, none⟩) 3 3] ((w.alloc (.cells Z4 5)).alloc (.cells #[.slice A0 8 8, .slice (some ⟨w.heap.size, 0, none⟩) 4 4, .slice A2 (l0.length - 12) (c0 - 12)] 24)).drew
      fun e w' => e = .returned (.int .u32 r) ∧ Below w.heap.size w w' := by
  have hB : Below w.heap.size w ((w.alloc (.cells Z4 5)).alloc (.cells #[.slice A0 8 8, .slice (some ⟨w.heap.size, 0, none⟩) 4 4, .slice A2 (l0.length - 12) (c0 - 12)] 24)).drew :=
    below_drew (below_alloc (below_alloc (Below.refl _ _) _) _)
  have h1 := Kd.C_below (Kd.C_take (m := 8) hr0 (by omega)) hB
  have h3 := Kd.C_below (Kd.C_drop (m := 12) hr0 h12 hc0) hB
  have e12 : 12 * (Kd.int .u8).sz = 12 := rfl
  rw [e12, hA2] at h3
  have hg1 : ((w.alloc (.cells Z4 5)).alloc (.cells #[.slice A0 8 8, .slice (some ⟨w.heap.size, 0, none⟩) 4 4, .slice A2 (l0.length - 12) (c0 - 12)] 24)).drew.heap[w.heap.size]? = some (.cells Z4 5 (0, 0)) :=
    heap_alloc2_old w _ _
  have hg2 : ((w.alloc (.cells Z4 5)).alloc (.cells #[.slice A0 8 8, .slice (some ⟨w.heap.size, 0, none⟩) 4 4, .slice A2 (l0.length - 12) (c0 - 12)] 24)).drew.heap[w.heap.size + 1]? = some (.cells #[.slice A0 8 8, .slice (some ⟨w.heap.size, 0, none⟩) 4 4, .slice A2 (l0.length - 12) (c0 - 12)] 24 (0, 0)) :=
    heap_alloc2_new w _ _
  have h2 := Z4_reads hg1
  have l1 : (l0.take 8).length = 8 := by rw [List.length_take]; omega
  have l2 : (List.replicate 4 (0 : Int)).length = 4 := by rw [List.length_replicate]
  have l3 : (l0.drop 12).length = l0.length - 12 := List.length_drop
  have hC := C_three (g := w.heap.size + 1) (A := A0) (B := some ⟨w.heap.size, 0, none⟩) (C := A2) (ca := 8) (cb := 4) (cc := c0 - 12) (by rw [l1, l2, l3]; exact hg2) h1 h2 h3 (by omega) (by omega) (by omega)
  refine (crc_Sum.calls k (some ⟨w.heap.size + 1, 0, none⟩) 3 [l0.take 8, List.replicate 4 0, l0.drop 12] r _ hC (Nat.le_refl _) h).mono ?_
  rintro e w' ⟨he, hb⟩
  exact ⟨he, hB.trans (hb.mono hB.size)⟩
set_option maxHeartbeats 800000 in
set_option maxRecDepth 100000 in
theorem packet_long (k : Nat) (A0 : Option Addr) (c0 : Nat) (l0 : List Int) (r : Int) (w : World) (hr0 : Kd.C (Kd.int .u8) w A0 l0.length l0) (hc0 : l0.length ≤ c0) (h12 : 12 ≤ l0.length) (h : crc_Sum.f k [l0.take 8, List.replicate 4 0, l0.drop 12] = some r) :
    Calls Try.prog 14 #[.slice A0 l0.length c0] w fun e w' => e = .returned (.tuple #[.int .u32 r, .bool true]) ∧ Below w.heap.size w w' := by
  have hcut0 := cut_run A0 l0.length c0 12 h12
  obtain ⟨A2, hA2⟩ : ∃ A2 : Option Addr, (if c0 = 12 then A0 else A0.map (·.add 12)) = A2 := ⟨_, rfl⟩
  rw [hA2] at hcut0
  have hcut : ∀ W : World, (Instr.slice 24 (.slice A0 l0.length c0) (some (.int .i64 12)) none none).run Try.prog W = .ok (.slice A2 (l0.length - 12) (c0 - 12)) W := hcut0
  have hmk : ∀ W : World, (Instr.makeSlice 24 (.int .i64 4) (.int .i64 4)).run Try.prog W = .ok (.slice (some ⟨W.heap.size, 0, none⟩) 4 4) (W.alloc (.cells Z4 5)) := fun W => print_make 24 5 .u8 1 Try.underlying24 info5 (by decide) 4 (by decide) W
  have hb : decide ((l0.length : Int) < 12) = false := decide_eq_false (by omega)
  have h8 : ((8 : Int) ≤ (c0 : Int)) = True := eq_true (by omega)
  have HCALL := Aside0.mk (packet_call k A0 A2 c0 l0 r w hr0 hc0 h12 h hA2)
  clear hr0 hc0 h12 h hcut0 hA2
  go_enter Try.func14, Try.ntmps14
  go_wp2
  go_region_with (go_at_call 11; refine HCALL.out.mono ?_; rintro e w1 ⟨rfl, hb1⟩; have HB1 := Aside0.mk hb1; clear hb1)
  all_goals (go_wp2; go_ret2; exact ⟨rfl, HB1.out⟩)

def crc_Packet.f (l0 : List Int) : Option (Int × Bool) := if Bytes l0 ∧ l0.length ≤ 1099511627776 then (if l0.length < 12 then some (0, false) else some (((crcF (blankField (toN l0)) : Nat) : Int), true)) else none
set_option maxHeartbeats 800000 in
set_option maxRecDepth 100000 in
theorem packet_short (A0 : Option Addr) (c0 : Nat) (l0 : List Int) (w : World) (h12 : l0.length < 12) :
    Calls Try.prog 14 #[.slice A0 l0.length c0] w fun e w' => e = .returned (.tuple #[.int .u32 0, .bool false]) ∧ Below w.heap.size w w' := by
  have hb : decide ((l0.length : Int) < 12) = true := decide_eq_true (by omega)
  go_enter Try.func14, Try.ntmps14
  go_wp2
  go_ret2
  exact ⟨rfl, Below.refl _ _⟩
theorem crc_Packet.calls (A0 : Option Addr) (c0 : Nat) (l0 : List Int) (r1 : Int) (r2 : Bool) (w : World) (hr0 : Kd.C (Kd.int .u8) w A0 l0.length l0) (hc0 : l0.length ≤ c0) (h : crc_Packet.f l0 = some (r1, r2)) :
    Calls Try.prog 14 #[.slice A0 l0.length c0] w fun e w' => e = .returned (.tuple #[.int .u32 r1, .bool r2]) ∧ Below w.heap.size w w' := by
  unfold crc_Packet.f at h
  by_cases hb : Bytes l0 ∧ l0.length ≤ 1099511627776
  · rw [if_pos hb] at h
    by_cases h12 : l0.length < 12
    · rw [if_pos h12] at h
      obtain ⟨rfl, rfl⟩ := Prod.mk.inj (Option.some.inj h)
      exact packet_short A0 c0 l0 w h12
    · rw [if_neg h12] at h
      obtain ⟨rfl, rfl⟩ := Prod.mk.inj (Option.some.inj h)
      have hn : ByteN (toN l0) := byteN_toN hb.1
      have hls : ByteL [(toN l0).take 8, List.replicate 4 0, (toN l0).drop 12] := by
        intro l hl
        simp only [List.mem_cons, List.not_mem_nil, or_false] at hl
        rcases hl with rfl | rfl | rfl
        · exact fun x hx => hn x (List.mem_of_mem_take hx)
        · exact fun x hx => by rw [List.eq_of_mem_replicate hx]; decide
        · exact fun x hx => hn x (List.mem_of_mem_drop hx)
      obtain ⟨k, hk⟩ := (sum_pure hls (by simp)).rounds
      have e1 : [(toN l0).take 8, List.replicate 4 0, (toN l0).drop 12].map iN = [l0.take 8, List.replicate 4 0, l0.drop 12] := by
        have e := iN_toN hb.1
        simp only [List.map_cons, List.map_nil, iN_replicate]
        rw [show iN ((toN l0).take 8) = (iN (toN l0)).take 8 by simp [iN, List.map_take], show iN ((toN l0).drop 12) = (iN (toN l0)).drop 12 by simp [iN, List.map_drop], e]
        rfl
      have e2 : [(toN l0).take 8, List.replicate 4 0, (toN l0).drop 12].flatten = blankField (toN l0) := by simp [blankField]
      rw [e1, e2] at hk
      exact packet_long k A0 c0 l0 _ w hr0 hc0 (by omega) hk
  · rw [if_neg hb] at h
    cases h

/-! ### poly.Add of two polynomials -/
def addTo (out p : List Nat) (i : Nat) : List Nat := (List.range out.length).map (fun m => if m < i then out[m]?.getD 0 ^^^ p[m]?.getD 0 else out[m]?.getD 0)
theorem addTo_length (out p : List Nat) (i : Nat) : (addTo out p i).length = out.length := by simp [addTo]
theorem addTo_get (out p : List Nat) (i m : Nat) (h : m < out.length) : (addTo out p i)[m]? = some (if m < i then out[m]?.getD 0 ^^^ p[m]?.getD 0 else out[m]?.getD 0) := by simp [addTo, h]
theorem addTo_zero (out p : List Nat) : addTo out p 0 = out := by
  apply List.ext_getElem?
  intro m
  by_cases h : m < out.length
  · rw [addTo_get _ _ _ _ h, if_neg (by omega)]; simp [h]
  · rw [List.getElem?_eq_none (l := addTo out p 0) (by rw [addTo_length]; omega), List.getElem?_eq_none (by omega)]
theorem addTo_at (out p : List Nat) (i : Nat) : (addTo out p i)[i]?.getD 0 = out[i]?.getD 0 := by
  by_cases h : i < out.length
  · rw [addTo_get _ _ _ _ h, if_neg (by omega)]; rfl
  · rw [List.getElem?_eq_none (l := addTo out p i) (by rw [addTo_length]; omega), List.getElem?_eq_none (by omega)]
theorem addTo_step (out p : List Nat) (i : Nat) : (addTo out p i).set i (out[i]?.getD 0 ^^^ p[i]?.getD 0) = addTo out p (i + 1) := by
  apply List.ext_getElem?
  intro m
  rw [List.getElem?_set]
  by_cases h : m < out.length
  · by_cases e : i = m
    · subst e
      rw [if_pos rfl, if_pos (by rw [addTo_length]; exact h), addTo_get _ _ _ _ h, if_pos (by omega)]
    · rw [if_neg e, addTo_get _ _ _ _ h, addTo_get _ _ _ _ h]
      by_cases h1 : m < i
      · rw [if_pos h1, if_pos (by omega)]
      · rw [if_neg h1, if_neg (by omega)]
  · rw [List.getElem?_eq_none (l := addTo out p (i + 1)) (by rw [addTo_length]; omega)]
    by_cases e : i = m
    · subst e
      rw [if_pos rfl, if_neg (by rw [addTo_length]; exact h)]
    · rw [if_neg e, List.getElem?_eq_none (by rw [addTo_length]; omega)]
theorem addTo_bytes {out p : List Nat} (ho : ByteN out) (hp : ByteN p) (i : Nat) : ByteN (addTo out p i) := by
  intro x hx
  simp only [addTo, List.mem_map, List.mem_range] at hx
  obtain ⟨m, hm, rfl⟩ := hx
  split
  · exact Nat.xor_lt_two_pow (n := 8) (by simpa using byteN_get ho m) (by simpa using byteN_get hp m)
  · exact byteN_get ho m
theorem co_addTo {out p : List Nat} (h : p.length ≤ out.length) (m : Nat) : co (addTo out p p.length) m = (co out m + co p m) % 2 := by
  by_cases hm : m < out.length
  · rw [co, addTo_get _ _ _ _ hm, Option.getD_some]
    by_cases h1 : m < p.length
    · rw [if_pos h1, xor_mod_two]; simp [co]
    · rw [if_neg h1]
      have : p[m]? = none := List.getElem?_eq_none (by omega)
      simp [co, this]
  · have h1 : (addTo out p p.length)[m]? = none := List.getElem?_eq_none (by rw [addTo_length]; omega)
    have h2 : out[m]? = none := List.getElem?_eq_none (by omega)
    have h3 : p[m]? = none := List.getElem?_eq_none (by omega)
    simp [co, h1, h2, h3]
/-- What stands in 'out' behind j of the two. -/
def sumAt (a q : List Nat) : Nat → List Nat
  | 0 => List.replicate (max a.length q.length) 0
  | 1 => addTo (List.replicate (max a.length q.length) 0) a a.length
  | _ => addTo (addTo (List.replicate (max a.length q.length) 0) a a.length) q q.length
theorem sumAt_length (a q : List Nat) (j : Nat) : (sumAt a q j).length = max a.length q.length := by
  match j with
  | 0 => simp [sumAt]
  | 1 => simp [sumAt, addTo_length]
  | j + 2 => simp [sumAt, addTo_length]
theorem byteN_replicate (n : Nat) : ByteN (List.replicate n 0) := fun x hx => by rw [List.eq_of_mem_replicate hx]; decide
theorem sumAt_bytes {a q : List Nat} (ha : ByteN a) (hq : ByteN q) (j : Nat) : ByteN (sumAt a q j) := by
  match j with
  | 0 => exact byteN_replicate _
  | 1 => exact addTo_bytes (byteN_replicate _) ha _
  | j + 2 => exact addTo_bytes (addTo_bytes (byteN_replicate _) ha _) hq _
theorem red_sumAt (a q : List Nat) : red (sumAt a q 2) = red (addL a q) := by
  apply red_congr
  intro m
  show co (addTo _ q q.length) m = _
  rw [co_addTo (by rw [addTo_length, List.length_replicate]; omega), co_addTo (by rw [List.length_replicate]; omega), co_add]
  have : co (List.replicate (max a.length q.length) 0) m = 0 := by
    simp only [co, List.getElem?_replicate]
    split <;> rfl
  rw [this]
  have := co_lt a m
  omega
def poly_Add.f (l0 : List Int) (l1 : List (List Int)) : Option (List Int) := match l1 with
  | [q] => if Bytes l0 ∧ Bytes q ∧ l0.length ≤ 1048576 ∧ q.length ≤ 1048576 then some (iN (red (addL (toN l0) (toN q)))) else none
  | _ => none
theorem xor8 {x c : Nat} (hx : x < 256) (hc : c < 256) : Go.bits .xor .u8 (x : Int) (c : Int) = ((x ^^^ c : Nat) : Int) := u8_xor_nat x c hx hc
set_option maxHeartbeats 800000 in
set_option maxRecDepth 100000 in
theorem add_walk (k : Nat) (A0 : Option Addr) (c0 : Nat) (l0 : List Int) (A1 : Option Addr) (c1 : Nat) (q : List Int) (r : List Int) (N : Nat) (w : World) (hr0 : Kd.C (Kd.int .u8) w A0 l0.length l0) (hc0 : l0.length ≤ c0) (hr1 : Kd.C (Kd.slice 5 (Kd.int .u8)) w A1 1 [q]) (hc1 : 1 ≤ c1)
    (hb0 : Bytes l0) (hbq : Bytes q) (hl0 : l0.length ≤ 1048576) (hlq : q.length ≤ 1048576) (hN : N = max l0.length q.length) (h : poly_Reduce.f k (iN (sumAt (toN l0) (toN q) 2)) = some r) :
    Calls Try.prog 33 #[.slice A0 l0.length c0, .slice A1 1 c1] w fun e w' => ∃ v0_ : Value, e = .returned (v0_) ∧ Kd.R (Kd.int .u8) 5 w' w.heap.size (fun _ => True) v0_ r ∧ Below w.heap.size w w' := by
  have HR0 := Aside0.mk hr0
  have HC0 := Aside0.mk hc0
  have HH := Aside0.mk h
  have HB0 := Aside0.mk hb0
  have HBQ := Aside0.mk hbq
  obtain ⟨ad, B1, d1, eA, hx, hl, hC⟩ := at_L1 hr1 0 (by decide) (by decide)
  subst eA
  have e0 : rd_L1 [q] 0 = q := rfl
  rw [e0] at hx hl hC
  have e1 : ad.add (0 : Int).toNat = ad := by unfold Addr.add; split <;> simp_all
  rw [e1] at hx
  have HX := Aside0.mk hx
  have HRQ := Aside0.mk hC
  have HLQ := Aside0.mk hl
  have hmk := print_make 52 5 .u8 1 Try.underlying52 info5 (by decide) N (by omega)
  have hNI : (if (l0.length : Int) < (q.length : Int) then (q.length : Int) else (l0.length : Int)) = (N : Int) := by split <;> omega
  have hNn : (if l0.length < q.length then (q.length : Int) else (l0.length : Int)) = (N : Int) := by split <;> omega
  have HN := Aside0.mk hN
  have hN2 : N ≤ 1048576 := by omega
  obtain ⟨i52, hi52, hz0, hz1, hz2⟩ := info_parts info52
  clear hr0 hc0 hr1 hc1 h hb0 hbq hC hl e0 hN
  go_enter Try.func33, Try.ntmps33
  go_wp2
  go_loop [5, 17] (fun v5 v17 => ∃ j : Nat, j ≤ 1 ∧ v17 = .int .i64 j ∧ v5 = .int .i64 (if j = 0 then (l0.length : Int) else (N : Int))) (fun _ v17 => 1 - (intOf v17).toNat)
  case atStart => exact ⟨0, by decide, rfl, rfl⟩
  case round =>
    obtain ⟨j, hj, rfl, rfl⟩ := hrel
    by_cases hlt : j < 1
    · obtain rfl : j = 0 := by omega
      rw [if_pos rfl]
      go_wp2
      go_round
      case rel => exact ⟨1, by decide, rfl, rfl⟩
      case measure => decide
    · obtain rfl : j = 1 := by omega
      rw [if_neg (by decide)]
      clear hlt hj
      have hown1 : ((w.alloc (.cells (madeCells #[.int .u8 0] N) 5)).alloc (.cells #[.slice A0 l0.length c0] 52)).ownsRow w.heap.size 52 1 (.slice (some ⟨w.heap.size + 1, 0, none⟩) 1 1) 1 [.slice A0 l0.length c0] := by
        have h := World.ownsRow_lit (base := w.heap.size) (e := 52) (size := 1) (w.alloc (.cells (madeCells #[.int .u8 0] N) 5)) #[.slice A0 l0.length c0] 1 (by simp) (by decide) rfl
        rw [World.size_alloc] at h
        exact h
      have hout1 : ((w.alloc (.cells (madeCells #[.int .u8 0] N) 5)).alloc (.cells #[.slice A0 l0.length c0] 52)).ownsRow w.heap.size 5 1 (.slice (some ⟨w.heap.size, 0, none⟩) N N) N (nums .u8 (List.replicate N 0)) :=
        (own_made w w.heap.size 5 .u8 N (Nat.le_refl _) (by omega)).alloc _
      have hb1 : Below w.heap.size w ((w.alloc (.cells (madeCells #[.int .u8 0] N) 5)).alloc (.cells #[.slice A0 l0.length c0] 52)) := below_alloc (below_alloc (Below.refl _ _) _) _
      have HOWN := Aside0.mk hown1
      have HOUT := Aside0.mk hout1
      have HB := Aside0.mk hb1
      clear hown1 hout1 hb1
      go_wp2_with (at_builtin; refine wpList_append_own_at _ rfl (.tmp 29) (.tmp 30) 68 rfl w.heap.size 52 i52 (.slice none 0 0) 1 24 Try.underlying68 hi52 hz0 hz1 hz2 rfl (by decide) (.slice (some ⟨w.heap.size + 1, 0, none⟩) 1 1) 1 [.slice A0 l0.length c0] rfl HOWN.out ad 1 c1 [.slice B1 q.length d1] rfl rfl ?news ?h1 (by decide) (by decide) HB.out.size ?_; (case news => exact fun j u hj => by cases j with | zero => (have e : Value.slice B1 q.length d1 = u := by simpa using hj); (have e2 : ad.add 0 = ad := by unfold Addr.add; split <;> simp_all); rw [e2, ← e]; exact (HB.out.cell (World.block_lt_of_cell? w _ HX.out)).trans HX.out | succ j => simp at hj); (case h1 => intro u hu; simp at hu; rw [hu]; rfl); intro v2 w2 hown2 hgrow2 _ hat2; obtain ⟨g2, cap2, rfl, hga, hgb⟩ := hown2.form (by decide); have HOWN2 := Aside0.mk hown2; have HOUT2 := Aside0.mk (HOUT.out.kept hgrow2 (.inr (by simp [Value.ownBlock]))); have HB2 := Aside0.mk (HB.out.grown hgrow2 HB.out.size (by intro k hk; simp [Value.ownBlock] at hk; omega)); clear hown2 hgrow2 hat2 hga hgb HOWN HOUT HB)
      go_loopw [10, 11, 12, 33] (fun v10 v11 v12 v33 wr => ∃ j : Nat, j ≤ 2 ∧ v33 = .int .i64 j ∧ Aside0 (wr.ownsRow w.heap.size 52 1 (.slice (some ⟨g2, 0, none⟩) 2 cap2) 2 ([.slice A0 l0.length c0] ++ [.slice B1 q.length d1])) ∧ Aside0 (Kd.R (Kd.int .u8) 5 wr w.heap.size (fun _ => True) (.slice (some ⟨w.heap.size, 0, none⟩) N N) (iN (sumAt (toN l0) (toN q) j))) ∧ Aside0 (Below w.heap.size w wr)) (fun _ _ _ v33 _ => 2 - (intOf v33).toNat)
      case atStart =>
        refine ⟨0, by decide, rfl, HOWN2, ⟨?_⟩, HB2⟩
        have e : iN (sumAt (toN l0) (toN q) 0) = List.replicate N 0 := by
          rw [HN.out]
          simp only [sumAt, iN_replicate, toN_length]
          rfl
        rw [e]
        have ho := HOUT2.out
        have el : (List.replicate N (0 : Int)).length = N := List.length_replicate
        exact Kd.R_of_own (enc := Value.int .u8) (by rw [el]; exact ho) (fun _ _ => trivial)
      case round =>
        clear HOWN2 HOUT2 HB2
        obtain ⟨j, hj, rfl, HOWN, HOUT, HB⟩ := hrel
        by_cases hlt : j < 2
        · obtain ⟨p, A, c, hcell, HP, HLP, HBP, hlp, HST⟩ : ∃ (p : List Int) (A : Option Addr) (c : Nat), wr.cell? ⟨g2, j, none⟩ = some (.slice A p.length c) ∧ Aside0 (Kd.C (Kd.int .u8) w A p.length p) ∧ Aside0 (p.length ≤ c) ∧ Aside0 (Bytes p) ∧ p.length ≤ N ∧ Aside0 (sumAt (toN l0) (toN q) (j + 1) = addTo (sumAt (toN l0) (toN q) j) (toN p) p.length) := by
            have hc := HOWN.out.cells (g := g2) rfl
            rcases (show j = 0 ∨ j = 1 by omega) with rfl | rfl
            · exact ⟨l0, A0, c0, by simpa [add_plain] using hc 0 _ rfl, HR0, HC0, HB0, by have := HN.out; omega, ⟨by simp [sumAt, toN_length]⟩⟩
            · exact ⟨q, B1, d1, by simpa [add_plain] using hc 1 _ rfl, HRQ, HLQ, HBQ, by have := HN.out; omega, ⟨by simp [sumAt, toN_length]⟩⟩
          obtain ⟨st, hst⟩ : ∃ st : List Nat, st = sumAt (toN l0) (toN q) j := ⟨_, rfl⟩
          have hstl : st.length = N := by rw [hst, sumAt_length, toN_length, toN_length]; exact HN.out.symm
          have hstb : ByteN st := by rw [hst]; exact sumAt_bytes (byteN_toN HB0.out) (byteN_toN HBQ.out) j
          rw [← hst] at HOUT HST
          have HSTL := Aside0.mk hstl
          have HSTB := Aside0.mk hstb
          obtain ⟨wo, hwo⟩ : ∃ wo : World, wo = wr := ⟨_, rfl⟩
          subst hwo
          clear hst hstl hstb
          go_wp2
          go_loopw [11, 12, 39] (fun v11 v12 v39 wr => ∃ i : Nat, i ≤ p.length ∧ v39 = .int .i64 i ∧ Aside0 (wr.ownsRow w.heap.size 52 1 (.slice (some ⟨g2, 0, none⟩) 2 cap2) 2 ([.slice A0 l0.length c0] ++ [.slice B1 q.length d1])) ∧ Aside0 (Kd.R (Kd.int .u8) 5 wr w.heap.size (fun _ => True) (.slice (some ⟨w.heap.size, 0, none⟩) N N) (iN (addTo st (toN p) i))) ∧ Aside0 (Below w.heap.size w wr)) (fun _ _ v39 _ => p.length - (intOf v39).toNat)
          case atStart => exact ⟨0, Nat.zero_le _, rfl, HOWN, ⟨by rw [addTo_zero]; exact HOUT.out⟩, HB⟩
          case round =>
            clear hcell HOWN HOUT HB
            obtain ⟨i, hi, rfl, HOWN, HOUT, HB⟩ := hrel
            by_cases hil : i < p.length
            · have hlen : (iN (addTo st (toN p) i)).length = N := by rw [iN_length, addTo_length]; exact HSTL.out
              obtain ⟨hcx, hcf⟩ := Kd.R_celln 0 HOUT.out (i : Int) (by omega) (by omega)
              obtain ⟨ad2, eA2, hpx⟩ := Kd.at_int HP.out (i : Int) (by omega) (by omega)
              subst eA2
              have hpx2 := (HB.out.cell (World.block_lt_of_cell? w _ hpx)).trans hpx
              have hx8 : st[i]?.getD 0 < 256 := byteN_get HSTB.out i
              have hc8 : (toN p)[i]?.getD 0 < 256 := byteN_get (byteN_toN HBP.out) i
              have erd : rd p (i : Int) = (((toN p)[i]?.getD 0 : Nat) : Int) := by rw [← rd_iN, iN_toN HBP.out]
              have erd2 : rdOf 0 (iN (addTo st (toN p) i)) (i : Int) = ((st[i]?.getD 0 : Nat) : Int) := by
                have h := rd_iN (addTo st (toN p) i) i
                rw [addTo_at] at h
                exact h
              rw [erd2, Int.toNat_natCast] at hcx
              rw [Int.toNat_natCast] at hcf
              rw [erd, Int.toNat_natCast] at hpx2
              obtain ⟨X, hX⟩ : ∃ X, X = st[i]?.getD 0 := ⟨_, rfl⟩
              obtain ⟨C, hCC⟩ : ∃ C, C = (toN p)[i]?.getD 0 := ⟨_, rfl⟩
              rw [← hX] at hcx hx8
              rw [← hCC] at hpx2 hc8
              have hxor := xor8 hx8 hc8
              have hput := Kd.R_putg HOUT.out (i : Int) ((X ^^^ C : Nat) : Int)
              rw [Int.toNat_natCast, iN_set, hX, hCC, addTo_step, ← hX, ← hCC] at hput
              have HP2 := Aside0.mk hput
              have HX2 := Aside0.mk hX
              have HC2 := Aside0.mk hCC
              clear hput hX hCC erd erd2 hpx hlen
              go_wp2
              go_roundw
              case rel => exact ⟨i + 1, by omega, by go_num, ⟨HOWN.out.kept HP2.out.2 (by have h := own_type_ne HOWN.out (Kd.own_of_R (enc := Value.int .u8) HOUT.out) (show (52 : Nat) ≠ 5 by decide); exact h)⟩, ⟨HP2.out.1⟩, ⟨HB.out.setCell (p := ⟨w.heap.size, i, none⟩) (Nat.le_refl _) _⟩⟩
              case measure => simp [intOf]; omega
            · obtain rfl : i = p.length := by omega
              go_wp2
              go_roundw
              case rel => exact ⟨j + 1, by omega, by go_num, HOWN, ⟨by rw [HST.out]; exact HOUT.out⟩, HB⟩
              case measure => simp [intOf]; omega
        · obtain rfl : j = 2 := by omega
          have hlen : (iN (sumAt (toN l0) (toN q) 2)).length = N := by rw [iN_length, sumAt_length, toN_length, toN_length]; exact HN.out.symm
          have hcall := poly_Reduce.calls k (some ⟨w.heap.size, 0, none⟩) N (iN (sumAt (toN l0) (toN q) 2)) r wr (Kd.R_reads' HOUT.out).2.2 (by omega) HH.out
          rw [hlen] at hcall
          have HCALL := Aside0.mk hcall
          clear hcall hlen
          go_wp2_with (go_at_call 43; refine HCALL.out.mono ?_; rintro e w3 ⟨v3, rfl, ho3, hb3⟩; have HO3 := Aside0.mk (Kd.R_lower ho3 HB.out.size); have HB3 := Aside0.mk (HB.out.trans (hb3.mono HB.out.size)); clear ho3 hb3)
          go_ret
          exact ⟨_, rfl, HO3.out, HB3.out⟩
theorem poly_Add.calls (A0 : Option Addr) (c0 : Nat) (l0 : List Int) (A1 : Option Addr) (c1 : Nat) (l1 : List (List Int)) (r : List Int) (w : World) (hr0 : Kd.C (Kd.int .u8) w A0 l0.length l0) (hc0 : l0.length ≤ c0) (hr1 : Kd.C (Kd.slice 5 (Kd.int .u8)) w A1 l1.length l1) (hc1 : l1.length ≤ c1) (h : poly_Add.f l0 l1 = some r) :
    Calls Try.prog 33 #[.slice A0 l0.length c0, .slice A1 l1.length c1] w fun e w' => ∃ v0_ : Value, e = .returned (v0_) ∧ Kd.R (Kd.int .u8) 5 w' w.heap.size (fun _ => True) v0_ r ∧ Below w.heap.size w w' := by
  match l1, hr1, hc1, h with
  | [], _, _, h => cases h
  | q :: q2 :: l, _, _, h => cases h
  | [q], hr1, hc1, h =>
    simp only [poly_Add.f] at h
    by_cases hb : Bytes l0 ∧ Bytes q ∧ l0.length ≤ 1048576 ∧ q.length ≤ 1048576
    · rw [if_pos hb] at h
      obtain rfl := Option.some.inj h
      obtain ⟨h1, h2, h3, h4⟩ := hb
      obtain ⟨k, hk⟩ := (reduce_pure (sumAt_bytes (byteN_toN h1) (byteN_toN h2) 2) (by rw [sumAt_length, toN_length, toN_length]; omega)).rounds
      rw [red_sumAt] at hk
      exact add_walk k A0 c0 l0 A1 c1 q _ _ w hr0 hc0 hr1 hc1 h1 h2 h3 h4 rfl hk
    · rw [if_neg hb] at h
      cases h

/-! ### poly.Generator -/
def pows : List Nat := [32, 28, 27, 26, 25, 23, 22, 20, 19, 18, 14, 13, 11, 10, 9, 8, 6, 0]
def genAt : Nat → List Nat
  | 0 => []
  | i + 1 => red (addL (genAt i) (red (List.replicate (pows[i]?.getD 0) 0 ++ [1])))
theorem genAt_18 : genAt 18 = G := by decide +kernel
theorem genAt_bytes (i : Nat) : ByteN (genAt i) := by
  cases i with
  | zero => exact fun x hx => by cases hx
  | succ i => exact byteN_red _
theorem genAt_length : ∀ i, i ≤ 18 → (genAt i).length ≤ 33 := by decide +kernel
theorem shift_length : ∀ i, i < 18 → (red (List.replicate (pows[i]?.getD 0) 0 ++ [1])).length ≤ 33 := by decide +kernel
theorem pows_le : ∀ i, i < 18 → pows[i]?.getD 0 ≤ 32 := by decide +kernel
def poly_Generator.f : Option (List Int) := some (iN G)
theorem idx18 : ∀ (i : Nat), i < 18 → ∀ W : World, (Instr.index 69 (.agg #[Value.int .i64 32, Value.int .i64 28, Value.int .i64 27, Value.int .i64 26, Value.int .i64 25, Value.int .i64 23, Value.int .i64 22, Value.int .i64 20, Value.int .i64 19, Value.int .i64 18, Value.int .i64 14, Value.int .i64 13, Value.int .i64 11, Value.int .i64 10, Value.int .i64 9, Value.int .i64 8, Value.int .i64 6, Value.int .i64 0]) (.int .i64 (i : Int))).run Try.prog W = .ok (.int .i64 ((pows[i]?.getD 0 : Nat) : Int)) W
  | 0, _, _ => by kernel_rfl
  | 1, _, _ => by kernel_rfl
  | 2, _, _ => by kernel_rfl
  | 3, _, _ => by kernel_rfl
  | 4, _, _ => by kernel_rfl
  | 5, _, _ => by kernel_rfl
  | 6, _, _ => by kernel_rfl
  | 7, _, _ => by kernel_rfl
  | 8, _, _ => by kernel_rfl
  | 9, _, _ => by kernel_rfl
  | 10, _, _ => by kernel_rfl
  | 11, _, _ => by kernel_rfl
  | 12, _, _ => by kernel_rfl
  | 13, _, _ => by kernel_rfl
  | 14, _, _ => by kernel_rfl
  | 15, _, _ => by kernel_rfl
  | 16, _, _ => by kernel_rfl
  | 17, _, _ => by kernel_rfl
  | i + 18, h, _ => absurd h (by omega)
/-- Shift of the polynomial 1, laid in a new block. -/
theorem gen_shift (n : Nat) (hn : n ≤ 32) (w W : World) (hB : Below w.heap.size w W) :
    Calls Try.prog 30 #[.slice (some ⟨W.heap.size, 0, none⟩) 1 1, .int .i64 (n : Int)] (W.alloc (.cells #[.int .u8 1] 5)) fun e w' => ∃ (A : Option Addr) (c : Nat), e = .returned (.slice A (red (List.replicate n 0 ++ [1])).length c) ∧
      Kd.R (Kd.int .u8) 5 w' W.heap.size (fun _ => True) (.slice A (red (List.replicate n 0 ++ [1])).length c) (iN (red (List.replicate n 0 ++ [1]))) ∧ Below w.heap.size w w' ∧ Below W.heap.size W w' := by
  obtain ⟨k, hk⟩ := (shift_pure (l := [1]) (by intro x hx; simp at hx; omega) (by decide) n (by omega)).rounds
  have ho := own_lit W W.heap.size 5 .u8 [1] (Nat.le_refl _) (by decide)
  have hR : Kd.R (Kd.int .u8) 5 (W.alloc (.cells #[.int .u8 1] 5)) W.heap.size (fun _ => True) (.slice (some ⟨W.heap.size, 0, none⟩) 1 1) [1] := Kd.R_of_own (enc := Value.int .u8) ho (fun _ _ => trivial)
  refine (poly_Shift.calls k (fun _ => True) (some ⟨W.heap.size, 0, none⟩) 1 (iN [1]) (n : Int) _ _ (Kd.R_V hR) hk).mono ?_
  rintro e w' ⟨v, rfl, hv, hb⟩
  have hb2 : Below W.heap.size W w' := (below_alloc (Below.refl _ _) _).trans (hb.mono (by simp))
  obtain ⟨A, c, e⟩ := Kd.R_slice hv
  rw [iN_length] at e
  subst e
  exact ⟨A, c, rfl, Kd.R_mono (Kd.R_lower hv (by simp)) (fun _ _ => trivial), below_then hB hB.size hb2, hb2⟩
/-- The sum with a polynomial, laid in a new block of one row. -/
theorem gen_add (a q : List Nat) (ha : ByteN a) (hq : ByteN q) (hal : a.length ≤ 33) (hql : q.length ≤ 33) (w W : World) (hB : Below w.heap.size w W) (A B : Option Addr) (c d : Nat) (hA : Kd.C (Kd.int .u8) W A a.length (iN a)) (hc : a.length ≤ c)
    (hQ : Kd.C (Kd.int .u8) W B q.length (iN q)) (hd : q.length ≤ d) :
    Calls Try.prog 33 #[.slice A a.length c, .slice (some ⟨W.heap.size, 0, none⟩) 1 1] (W.alloc (.cells #[.slice B q.length d] 52)) fun e w' => ∃ v : Value, e = .returned v ∧
      Kd.R (Kd.int .u8) 5 w' w.heap.size (fun _ => True) v (iN (red (addL a q))) ∧ Below w.heap.size w w' := by
  have hb0 : Below W.heap.size W (W.alloc (.cells #[.slice B q.length d] 52)) := below_alloc (Below.refl _ _) _
  have h1 : Kd.C (Kd.slice 5 (Kd.int .u8)) (W.alloc (.cells #[.slice B q.length d] 52)) (some ⟨W.heap.size, 0, none⟩) [iN q].length [iN q] := by
    refine ⟨rfl, by simp, fun _ => ⟨_, rfl, fun j p hj => ?_⟩⟩
    cases j with
    | succ j => simp at hj
    | zero =>
      have : iN q = p := by simpa using hj
      subst this
      refine ⟨_, rfl, ⟨B, d, rfl, by rw [iN_length]; exact hd, by rw [iN_length]; exact Kd.C_below hQ hb0⟩, fun i u hi => ?_⟩
      cases i with
      | succ i => simp at hi
      | zero =>
        have e : Value.slice B (iN q).length d = u := by simpa using hi
        rw [add_plain, blk_cell (heap_alloc_new W _), ← e, iN_length]
        rfl
  have hf : poly_Add.f (iN a) [iN q] = some (iN (red (addL a q))) := by
    simp only [poly_Add.f]
    rw [if_pos ⟨bytes_iN ha, bytes_iN hq, by rw [iN_length]; omega, by rw [iN_length]; omega⟩, toN_iN, toN_iN]
  have hcall := poly_Add.calls A c (iN a) (some ⟨W.heap.size, 0, none⟩) 1 [iN q] _ _ (by rw [iN_length]; exact Kd.C_below hA hb0) (by rw [iN_length]; exact hc) h1 (by simp) hf
  rw [iN_length] at hcall
  refine hcall.mono ?_
  rintro e w' ⟨v, rfl, hv, hb⟩
  have hb2 : Below W.heap.size W w' := hb0.trans (hb.mono (by simp))
  exact ⟨v, rfl, Kd.R_lower hv (Nat.le_trans hB.size (by simp)), below_then hB hB.size hb2⟩
set_option maxHeartbeats 800000 in
set_option maxRecDepth 100000 in
theorem poly_Generator.calls (r : List Int) (w : World) (h : poly_Generator.f = some r) :
    Calls Try.prog 35 #[] w fun e w' => ∃ v0_ : Value, e = .returned (v0_) ∧ Kd.R (Kd.int .u8) 5 w' w.heap.size (fun _ => True) v0_ r ∧ Below w.heap.size w w' := by
  obtain rfl := Option.some.inj h
  clear h
  go_enter Try.func35, Try.ntmps35
  go_wp2
  go_loopw [1, 3, 5] (fun v1 v3 v5 wr => ∃ i : Nat, i ≤ 18 ∧ v5 = .int .i64 i ∧ Aside0 (Kd.R (Kd.int .u8) 5 wr w.heap.size (fun _ => True) v1 (iN (genAt i))) ∧ Aside0 (Below w.heap.size w wr)) (fun _ _ v5 _ => 18 - (intOf v5).toNat)
  case atStart => exact ⟨0, by decide, rfl, ⟨Kd.R_nil _ _ _ _ _⟩, ⟨Below.refl _ _⟩⟩
  case round =>
    obtain ⟨i, hi, rfl, HO, HB⟩ := hrel
    by_cases hlt : i < 18
    · have hidx := idx18 i hlt
      have hpw := pows_le i hlt
      obtain ⟨n, hn⟩ : ∃ n, n = pows[i]?.getD 0 := ⟨_, rfl⟩
      have hgl := genAt_length i hi
      have hsl := shift_length i hlt
      have hstep : genAt (i + 1) = red (addL (genAt i) (red (List.replicate n 0 ++ [1]))) := by rw [hn]; rfl
      rw [← hn] at hidx hpw hsl
      have HSTEP := Aside0.mk hstep
      obtain ⟨A, c, eA⟩ := Kd.R_slice HO.out
      rw [iN_length] at eA
      subst eA
      have hr := Kd.R_reads' HO.out
      have hrA := hr.2.2
      have hrc := hr.2.1
      rw [iN_length] at hrA
      have HRA := Aside0.mk hrA
      have HRC := Aside0.mk hrc
      clear hn hstep hr hrA hrc
      go_wp2_with (first | (go_at_call 30; refine (gen_shift n hpw w _ HB.out).mono ?_; rintro e w2 ⟨B, d, rfl, hq, hb, hb2⟩; have HQ := Aside0.mk hq; have HB2 := Aside0.mk hb; have HBB := Aside0.mk hb2; clear hq hb hb2) | (go_at_call 33; refine (gen_add (genAt i) (red (List.replicate n 0 ++ [1])) (genAt_bytes i) (byteN_red _) hgl hsl w _ HB2.out A B c d (Kd.C_below HRA.out HBB.out) HRC.out (by have h := (Kd.R_reads' HQ.out).2.2; rwa [iN_length] at h) (Kd.R_reads' HQ.out).2.1).mono ?_; rintro e w3 ⟨v3, rfl, hv3, hb3⟩; have HV3 := Aside0.mk hv3; have HB3 := Aside0.mk hb3; clear hv3 hb3))
      go_roundw
      case rel => exact ⟨i + 1, by omega, by go_num, ⟨by rw [HSTEP.out]; exact HV3.out⟩, HB3⟩
      case measure => simp [intOf]; omega
    · obtain rfl : i = 18 := by omega
      go_wp2
      go_ret
      have h1 := HO.out
      rw [genAt_18] at h1
      exact ⟨_, rfl, h1, HB.out⟩
end Go.Proofs.Ytfhnakebfiaccaa.P
