/- The degree of a list of coefficients, by the library's iterator. -/
import Derived.RangeFuncNested
import Derived.RangeFuncBound
import Derived.RangeFuncCalls
import Derived.RangeFuncBox
import Derived.RangeFuncLeaves
import Derived.Shelf.Abstract
import Derived.WalkKit
import Derived.OwnWalkIn
import Derived.TacticsInMore
import Derived.LoopNIn
import Derived.LoopIn
import Derived.ChangeSlices
import Derived.Test.YtfhnakebfiaccaaP0
import Derived.Test.YtfhnakebfiaccaaMath
import Derived.Laws.BitsAllLaws
namespace Go.Proofs.Ytfhnakebfiaccaa.P
open Go.RowKit Go.Shelf Go.Proofs.Ytfhnakebfiaccaa.M Go.Proofs.YtfhnakebfiaccaaW.PrintWords
attribute [local go_sem] Oper.semAt_some
set_option linter.unusedVariables false

def upto {α : Type} (f : Nat → α) (k : Nat) : List α := (List.range k).map f
theorem upto_succ {α : Type} (f : Nat → α) (k : Nat) : upto f (k + 1) = upto f k ++ [f k] := by simp [upto, List.range_succ]
theorem upto_length {α : Type} (f : Nat → α) (k : Nat) : (upto f k).length = k := by simp [upto]
/-- What comes at the k-th round. -/
def backAt (zs : List Int) (len k : Nat) : Nat × Int := (len - 1 - k, zs[len - 1 - k]?.getD 0)

set_option maxRecDepth 100000 in
set_option maxHeartbeats 2000000 in
theorem back1_in (F : Fence) (n : Nat) (h50 : F.fn 50) (hro : F.round = none) (hn : 1 ≤ n) (l Bs n₀ : Nat) (ad : Addr) (len cap : Nat) (zs : List Int) (hreach : len ≤ 9223372036854775807) (hb : ad.block < n₀) (hBn : Bs < n₀) (J Jx : List (Nat × Int) → World → Prop)
    (hY : ∀ pre x W, J pre W → pre.length < len → YieldAt F (n - 1) Try.prog l #[.int .i64 (x.1 : Int), .int .u8 x.2] W fun e W' =>
      (e = .returned (.bool true) ∧ J (pre ++ [x]) W' ∧ Below n₀ W W') ∨ (e = .returned (.bool false) ∧ Jx (pre ++ [x]) W'))
    (W : World) (hBs : W.cell? ⟨Bs, 0, none⟩ = some (.slice (some ad) len cap)) (hc : ∀ j, j < len → W.cell? (ad.add j) = some (.int .u8 (zs[j]?.getD 0))) (h0 : J [] W) :
    CallsIn F n Try.prog 50 #[.func (.yield l) #[] #[], .pointer (some ⟨Bs, 0, none⟩)] W fun e W' => (∃ v, e = .returned v) ∧
      ((∃ ys, ys = upto (backAt zs len) len ∧ J ys W') ∨ (∃ pre, (∃ k, k ≤ len ∧ pre = upto (backAt zs len) k) ∧ Jx pre W')) := by
  refine callsIn_of_wp Try.func50 rfl h50 ?_ hro
  simp only [Try.ntmps50, List.size_toArray, List.length_cons, List.length_nil, Nat.reduceAdd, Nat.reduceSub, Array.replicate_succ, Array.replicate_zero, List.push_toArray, List.append_toArray, List.nil_append, List.cons_append]
  gi_wp2
  gi_loopw [3] (fun i wr => ∃ (k : Nat) (x : Int), k ≤ len ∧ i = .int .i64 x ∧ Aside0 (x = (len : Int) - 1 - k) ∧ J (upto (backAt zs len) k) wr ∧ Below n₀ W wr)
    (fun i _ => (intOf i + 1).toNat)
  case atStart => exact ⟨0, (len : Int) - 1, Nat.zero_le _, rfl, ⟨by omega⟩, h0, Below.refl _ _⟩
  case round =>
    obtain ⟨k, x, hk, rfl, HX, hJs, hnx⟩ := hrel
    by_cases hlt : k < len
    · obtain ⟨j, hj⟩ : ∃ j : Nat, j = len - 1 - k := ⟨_, rfl⟩
      obtain rfl : x = (j : Int) := by rw [HX.out]; omega
      have hjl : j < len := by omega
      obtain ⟨fn, tmps, assign, body, hy, hR⟩ := hY _ (backAt zs len k) wr hJs (by rw [upto_length]; exact hlt)
      have hcx' : wr.cell? (ad.add j) = some (.int .u8 (zs[j]?.getD 0)) := (hnx.cell (p := ad.add j) (by have e : (ad.add j).block = ad.block := (by unfold Addr.add; split <;> rfl); rw [e]; exact hb)).trans (hc j hjl)
      have hbk : backAt zs len k = (j, zs[j]?.getD 0) := by rw [backAt, ← hj]
      rw [hbk] at hy
      dsimp only at hy
      have hbs' : wr.cell? ⟨Bs, 0, none⟩ = some (.slice (some ad) len cap) := (hnx.cell (p := ⟨Bs, 0, none⟩) hBn).trans hBs
      have HBK := Aside0.mk hbk
      have HJ := Aside0.mk hj
      clear hbk hj
      gi_wp2
      refine hR.mono ?_
      rintro e W3 (⟨rfl, hJ3, hk3⟩ | ⟨rfl, hJx3⟩)
      · -- THE ROUND GOES ON
        gi_wp2
        go_roundw
        case rel => exact ⟨k + 1, (j : Int) - 1, by omega, by first | rfl | simp, ⟨by have := HJ.out; omega⟩, by rw [upto_succ]; exact hJ3, hnx.trans hk3⟩
        case measure => simp [intOf]
      · gi_wp2
        refine bodyPost_ret (results_none rfl _ _ _) rfl ?_
        exact ⟨⟨_, rfl⟩, .inr ⟨_, ⟨k + 1, by omega, (upto_succ _ _).symm⟩, hJx3⟩⟩
    · obtain rfl : k = len := by omega
      obtain rfl : x = -1 := by rw [HX.out]; omega
      gi_wp2
      go_end0
      exact ⟨⟨_, rfl⟩, .inl ⟨_, rfl, hJs⟩⟩

set_option maxRecDepth 100000 in
set_option maxHeartbeats 1000000 in
/-- No element: no round. -/
theorem back1_zero_in (F : Fence) (n : Nat) (h50 : F.fn 50) (hro : F.round = none) (l Bs : Nat) (a : Option Addr) (cap : Nat) (J : List (Nat × Int) → World → Prop) (W : World) (hBs : W.cell? ⟨Bs, 0, none⟩ = some (.slice a 0 cap)) (h0 : J [] W) :
    CallsIn F n Try.prog 50 #[.func (.yield l) #[] #[], .pointer (some ⟨Bs, 0, none⟩)] W fun e W' => (∃ v, e = .returned v) ∧ J [] W' := by
  refine callsIn_of_wp Try.func50 rfl h50 ?_ hro
  simp only [Try.ntmps50, List.size_toArray, List.length_cons, List.length_nil, Nat.reduceAdd, Nat.reduceSub, Array.replicate_succ, Array.replicate_zero, List.push_toArray, List.append_toArray, List.nil_append, List.cons_append]
  gi_wp2
  gi_loopw [3] (fun i wr => i = .int .i64 (-1) ∧ J [] wr) (fun _ _ => 0)
  case atStart => exact ⟨rfl, h0⟩
  case round =>
    obtain ⟨rfl, hJs⟩ := hrel
    gi_wp2
    go_end0
    exact ⟨⟨_, rfl⟩, hJs⟩

set_option maxHeartbeats 1000000 in
/-- slices.Backward: the slice value is boxed; the function value captures the box. -/
theorem back_in (F : Fence) (n : Nat) (h48 : F.fn 48) (hro : F.round = none) (a : Option Addr) (len cap : Nat) (w : World) :
    CallsIn F n Try.prog 48 #[.slice a len cap] w fun e w' => e = .returned (.func (.func 50) #[] #[.pointer (some ⟨w.heap.size, 0, none⟩)]) ∧ w' = w.alloc (.cells #[.slice a len cap] 52) := by
  refine callsIn_of_wp Try.func48 rfl h48 ?_ hro
  simp only [Try.ntmps48, List.size_toArray, List.length_cons, List.length_nil, Nat.reduceAdd, Nat.reduceSub, Array.replicate_succ, Array.replicate_zero, List.push_toArray, List.append_toArray, List.nil_append, List.cons_append]
  gi_wp2
  go_ret
  exact ⟨rfl, rfl⟩

theorem back_stops (F : Fence) (n : Nat) (h50 : F.fn 50) (hro : F.round = none) (hn : 1 ≤ n) (Bs n₀ : Nat) (a : Option Addr) (cap : Nat) (zs : List Int) (w : World) (hBs : Bs < w.heap.size) (hn₀ : n₀ ≤ w.heap.size) (hBn : Bs < n₀)
    (hc : w.cell? ⟨Bs, 0, none⟩ = some (.slice a zs.length cap)) (hI : Kd.C (Kd.int .u8) w a zs.length zs) (hbl : ∀ ad, a = some ad → 0 < zs.length → ad.block < n₀) :
    SeqStopsK F n Try.prog 50 #[.pointer (some ⟨Bs, 0, none⟩)] (fun x : Nat × Int => #[Value.int .i64 (x.1 : Int), Value.int .u8 x.2]) (Below n₀) (fun ys => ys = upto (backAt zs zs.length) zs.length)
      (fun pre => ∃ k, k ≤ zs.length ∧ pre = upto (backAt zs zs.length) k) zs.length w := fun l J Jx W hW _ _ hY h0 => by
  have hc' := (hW.cell (p := ⟨Bs, 0, none⟩) hBs).trans hc
  have hmax := Kd.C_max hI
  by_cases hz : 0 < zs.length
  · obtain ⟨ad, rfl, hcs⟩ := hI.2.2 hz
    refine back1_in F n h50 hro hn l Bs n₀ ad zs.length cap zs hmax (hbl ad rfl hz) hBn J Jx hY W hc' (fun j hj => ?_) h0
    obtain ⟨ad', e, hx⟩ := Kd.at_int hI (j : Int) (by omega) (by omega)
    cases e
    have hlt := World.block_lt_of_cell? w _ hx
    have e2 : rd zs (j : Int) = zs[j]?.getD 0 := by rw [rd, Int.toNat_natCast, List.getD_eq_getElem?_getD]
    rw [e2, Int.toNat_natCast] at hx
    exact (hW.cell (by simpa using hlt)).trans hx
  · have e0 : zs.length = 0 := by omega
    rw [e0] at hc' hY ⊢
    exact (back1_zero_in F n h50 hro l Bs a cap J W hc' h0).mono fun e W' ⟨he, hj⟩ => ⟨he, .inl ⟨_, rfl, hj⟩⟩

/-- The last odd coefficient's place, or -1. -/
def IsDeg (zs : List Int) (r : Int) : Prop :=
  (r = -1 ∧ ∀ j, j < zs.length → (Go.bits .and .u8 (zs[j]?.getD 0) 1 == 1) = false) ∨
  ∃ k : Nat, k < zs.length ∧ r = (k : Int) ∧ (Go.bits .and .u8 (zs[k]?.getD 0) 1 == 1) = true ∧ ∀ j, k < j → j < zs.length → (Go.bits .and .u8 (zs[j]?.getD 0) 1 == 1) = false

set_option maxRecDepth 100000 in
set_option maxHeartbeats 2000000 in
theorem degree_in (F : Fence) (n : Nat) (h45 : F.fn 45) (h48 : F.fn 48) (h50 : F.fn 50) (hro : F.round = none) (hn : 3 ≤ n) (a : Option Addr) (cap : Nat) (zs : List Int) (w : World) (hI : Kd.C (Kd.int .u8) w a zs.length zs) :
    CallsIn F n Try.prog 45 #[.slice a zs.length cap] w fun e W' => (∃ r : Int, e = .returned (.int .i64 r) ∧ IsDeg zs r) ∧ Below w.heap.size w W' := by
  have h1 : 1 ≤ n := by omega
  have HI := Aside0.mk hI
  clear hI
  refine callsIn_of_wp_marks Try.func45 rfl h45 ?_ hro
  simp only [Try.ntmps45, List.size_toArray, List.length_cons, List.length_nil, Nat.reduceAdd, Nat.reduceSub, Array.replicate_succ, Array.replicate_zero, List.push_toArray, List.append_toArray, List.nil_append, List.cons_append]
  gi_wp2_with (gi_at_call 48; refine (back_in F (n - 1) h48 hro _ _ _ _).mono ?_; rintro e w' ⟨rfl, rfl⟩)
  have bR := Boxed.new w 3 (.int .i64 0)
  have bN := Boxed.new (w.alloc (.cells #[.int .i64 0] 3)) 52 (.slice a zs.length cap)
  rw [World.size_alloc] at bN
  have hB0 : Below w.heap.size w ((w.alloc (.cells #[.int .i64 0] 3)).alloc (.cells #[.slice a zs.length cap] 52)) := ((Below.refl _ w).alloc (Nat.le_refl _) _).alloc (by simp) _
  refine wpIn_rangeFunc_ownG hro h1 (gf := 50) (lb := #[.pointer (some ⟨w.heap.size + 1, 0, none⟩)]) rfl h50 (enters_of Try.func50 (by kernel_rfl) rfl)
    (back_stops F (n - 1) h50 hro (by omega) (w.heap.size + 1) (w.heap.size + 2) _ _ zs _ (by simp) (by simp) (by omega) bN.cell (Kd.C_below HI.out hB0) (fun ad e hz => by
      obtain ⟨ad', e', hx⟩ := Kd.at_int HI.out 0 (by omega) (by omega)
      rw [e] at e'
      cases e'
      have := World.block_lt_of_cell? w _ hx
      have e2 : (ad.add (0 : Int).toNat).block = ad.block := (by unfold Addr.add; split <;> rfl)
      rw [e2] at this
      omega)) belowK_t (belowK_b (by simp)) (Below.refl _ _) (fun _ => rfl)
    (fun pre W => ((∀ p ∈ pre, (Go.bits .and .u8 p.2 1 == 1) = false) ∧ W.cell? ⟨w.heap.size, 0, none⟩ = some (.int .i64 0) ∧ W.frozen? ⟨w.heap.size, 0, none⟩ = false) ∧ Below w.heap.size w W)
    (fun c pre W => (c = .ret ∧ ∃ ini last, pre = ini ++ [last] ∧ (∀ p ∈ ini, (Go.bits .and .u8 p.2 1 == 1) = false) ∧ (Go.bits .and .u8 last.2 1 == 1) = true ∧ W.cell? ⟨w.heap.size, 0, none⟩ = some (.int .i64 (last.1 : Int))) ∧ Below w.heap.size w W)
    (OwnFrom.and (Own.from (fun s A B row hs hg hr => ⟨hs.1, cell_kept hs.2.1 hg hr, (frozen_kept hs.2.1 hg hr).trans hs.2.2⟩) _) (ownFrom_below (Nat.le_refl _) (by simp; omega)))
    (fun c => OwnFrom.and (Own.from (fun s A B row hs hg hr => by obtain ⟨hc, ini, last, e1, e2, e3, e4⟩ := hs; exact ⟨hc, ini, last, e1, e2, e3, cell_kept e4 hg hr⟩) _) (ownFrom_below (Nat.le_refl _) (by simp; omega)))
    ⟨⟨by simp, (bR.alloc _).cell, (bR.alloc _).frozen⟩, hB0⟩
    (fun x => { tmps := #[.slice a zs.length cap, undef, .pointer (some ⟨w.heap.size, 0, none⟩), .int .i64 (x.1 : Int), .int .u8 x.2, .slice a zs.length cap, .func (.func 50) #[] #[.pointer (some ⟨w.heap.size + 1, 0, none⟩)], .int .i64 (x.1 : Int), .int .u8 x.2, undef, undef, undef, undef], defers := [] }) ?assign ?body ?done ?stop
  case assign =>
    intro l x W K hK
    gi_wp2
    exact hK
  case body =>
    rintro l pre x W ⟨⟨hp, hcr, hfr⟩, hB⟩ _
    gi_wp2
    · have hx : (Go.bits .and .u8 x.2 1 == 1) = true := by assumption
      exact ⟨(KeepsOthers.setCell _ _ _).from _, ⟨rfl, pre, x, rfl, hp, hx, World.cell?_setCell_same' _ _ _ (by rw [hcr]; rfl)⟩, hB.setCell (p := ⟨w.heap.size, 0, none⟩) (Nat.le_refl _) _⟩
    · have hx : (Go.bits .and .u8 x.2 1 == 1) = false := by assumption
      exact ⟨KeepsFrom.refl _ _, Below.refl _ _, ⟨fun p hp' => (List.mem_append.1 hp').elim (hp p) (fun e => by simp at e; subst e; exact hx), hcr, hfr⟩, hB⟩
  case done =>
    rintro D ys W hD rfl ⟨⟨hne, hcr, hfr⟩, hB⟩ hK
    gi_wp2
    have hK' := (KeepsOthers.setCell W ⟨w.heap.size, 0, none⟩ (.int .i64 (-1))).same D _ hK rfl
    refine ⟨by simp, .inl ⟨_, _, rfl, run_takeDeferred hK', ?_⟩⟩
    have hc5 := cell_kept (World.cell?_setCell_same' W ⟨w.heap.size, 0, none⟩ (.int .i64 (-1)) (by rw [hcr]; rfl)) (grownBy_putObj' _ D (.deferred none)) (fun r e => by cases e; exact ⟨_, hK', rfl⟩)
    refine ⟨.int .i64 (-1), ?_, ⟨-1, rfl, .inl ⟨rfl, fun j hj => hne (j, zs[j]?.getD 0) (by simp only [upto, List.mem_map, List.mem_range]; exact ⟨zs.length - 1 - j, by omega, by simp only [backAt]; rw [show zs.length - 1 - (zs.length - 1 - j) = j by omega]⟩)⟩⟩, (hB.setCell (p := ⟨w.heap.size, 0, none⟩) (Nat.le_refl _) _).trans (belowK_b (w := w) (Nat.le_refl _) _ D _ _ (by simp at hD; omega) hK' rfl rfl)⟩
    simp [results, Try.f45, go_sem, hc5]
  case stop =>
    rintro D c pre W hD ⟨k, hk, rfl⟩ ⟨⟨rfl, ini, last, e1, e2, e3, hcr⟩, hB⟩ hK
    gi_wp2
    refine ⟨by simp, .inl ⟨_, _, rfl, run_takeDeferred hK, ?_⟩⟩
    have hc5 := cell_kept hcr (grownBy_putObj' _ D (.deferred none)) (fun r e => by cases e; exact ⟨_, hK, rfl⟩)
    obtain ⟨k', rfl⟩ : ∃ k', k = k' + 1 := by
      cases k with
      | zero => simp [upto] at e1
      | succ k' => exact ⟨k', rfl⟩
    rw [upto_succ] at e1
    obtain ⟨rfl, e5⟩ := List.append_inj' e1 rfl
    obtain rfl : backAt zs zs.length k' = last := by simpa using e5
    refine ⟨.int .i64 ((zs.length - 1 - k' : Nat) : Int), ?_, ⟨((zs.length - 1 - k' : Nat) : Int), rfl, .inr ⟨zs.length - 1 - k', by omega, rfl, e3, fun j hj hjl => e2 (j, zs[j]?.getD 0) (by simp only [upto, List.mem_map, List.mem_range]; exact ⟨zs.length - 1 - j, by omega, by simp only [backAt]; rw [show zs.length - 1 - (zs.length - 1 - j) = j by omega]⟩)⟩⟩, hB.trans (belowK_b (w := w) (Nat.le_refl _) W D _ _ (by simp at hD; omega) hK rfl rfl)⟩
    simp only [backAt] at hc5
    simp [results, Try.f45, go_sem, hc5]

theorem degree_calls (a : Option Addr) (cap : Nat) (zs : List Int) (w : World) (hI : Kd.C (Kd.int .u8) w a zs.length zs) :
    Calls Try.prog 45 #[.slice a zs.length cap] w fun e W' => (∃ r : Int, e = .returned (.int .i64 r) ∧ IsDeg zs r) ∧ Below w.heap.size w W' :=
  (callsIn_wide (n := 3)).1 (degree_in _ 3 trivial trivial trivial rfl (Nat.le_refl _) a cap zs w hI)

theorem and_one_walk {x : Int} (h0 : 0 ≤ x) (h1 : x < 256) : Go.bits .and .u8 x 1 = ((x.toNat % 2 : Nat) : Int) := by
  obtain ⟨q, rfl⟩ : ∃ q : Nat, x = q := ⟨x.toNat, by omega⟩
  have h := u8_and_nat q 1 (by omega) (by decide)
  rw [Nat.and_one_is_mod] at h
  exact h
theorem isDeg_lead {zs : List Int} (hb : Bytes zs) {r : Int} (h : IsDeg zs r) : r = (lead (toN zs) : Int) - 1 := by
  have hco : ∀ j, j < zs.length → (Go.bits .and .u8 (zs[j]?.getD 0) 1 == 1) = decide (co (toN zs) j = 1) := fun j hj => by
    have hbj := hb _ (List.getElem_mem hj)
    rw [List.getElem?_eq_getElem hj, Option.getD_some, and_one_walk hbj.1 hbj.2]
    have e : co (toN zs) j = (zs[j]).toNat % 2 := by simp [co, toN, hj]
    rw [e]
    rcases Nat.mod_two_eq_zero_or_one (zs[j]).toNat with h | h <;> rw [h] <;> rfl
  have hout : ∀ j, zs.length ≤ j → co (toN zs) j = 0 := fun j hj => by
    have : (toN zs)[j]? = none := List.getElem?_eq_none (by rw [toN_length]; exact hj)
    simp [co, this]
  have hz : ∀ j, j < zs.length → (Go.bits .and .u8 (zs[j]?.getD 0) 1 == 1) = false → co (toN zs) j = 0 := fun j hj h => by
    rw [hco j hj] at h
    have := of_decide_eq_false h
    have : co (toN zs) j < 2 := Nat.mod_lt _ (by decide)
    omega
  rcases h with ⟨rfl, h⟩ | ⟨k, hk, rfl, h1, h2⟩
  · have e : lead (toN zs) = 0 := lead_unique (fun h => absurd h (Nat.lt_irrefl _)) (fun j _ => by
      by_cases hj : j < zs.length
      · exact hz j hj (h j hj)
      · exact hout j (by omega))
    rw [e]
    rfl
  · have e : lead (toN zs) = k + 1 := lead_unique (fun _ => by
      rw [hco k hk] at h1
      exact of_decide_eq_true h1) (fun j hj => by
      by_cases hj2 : j < zs.length
      · exact hz j hj2 (h2 j hj hj2)
      · exact hout j (by omega))
    rw [e]
    omega
def poly_Degree.f (l0 : List Int) : Option Int := if Bytes l0 then some ((lead (toN l0) : Int) - 1) else none
theorem poly_Degree.calls (A0 : Option Addr) (c0 : Nat) (l0 : List Int) (r : Int) (w : World) (hr0 : Kd.C (Kd.int .u8) w A0 l0.length l0) (hc0 : l0.length ≤ c0) (h : poly_Degree.f l0 = some r) :
    Calls Try.prog 45 #[.slice A0 l0.length c0] w fun e w' => e = .returned (.int .i64 r) ∧ Below w.heap.size w w' := by
  unfold poly_Degree.f at h
  by_cases hb : Bytes l0
  · rw [if_pos hb] at h
    obtain rfl := Option.some.inj h
    refine (degree_calls A0 c0 l0 w hr0).mono ?_
    rintro e w' ⟨⟨r, rfl, hd⟩, hB⟩
    exact ⟨by rw [isDeg_lead hb hd], hB⟩
  · rw [if_neg hb] at h
    cases h
end Go.Proofs.Ytfhnakebfiaccaa.P
