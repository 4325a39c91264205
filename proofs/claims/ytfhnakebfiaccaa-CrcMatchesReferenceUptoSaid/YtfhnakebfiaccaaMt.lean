/- The law CrcMatchesReference: its walk over parts that came in, and what the bound of a reading gives. -/
import Derived.Test.YtfhnakebfiaccaaRows
import Derived.Test.YtfhnakebfiaccaaQ3
import Derived.Deep.Matrix
namespace Go.Proofs.Ytfhnakebfiaccaa.P
open Go.RowKit Go.ChangeShapes Go.WideShapes Go.Proofs.Ytfhnakebfiaccaa.M Go.Proofs.YtfhnakebfiaccaaW.PrintWords Go.Proofs.YtfhnakebfiaccaaW.PrintLast

/-! ### what the bound gives -/
theorem bulk_one {H : Type} (d : DataW H) : 1 ≤ Rows.uptoBulk d := by
  cases d with
  | lit l => cases l <;> simp [Rows.uptoBulk]
  | nil => simp [Rows.uptoBulk]
  | ptr d => simp [Rows.uptoBulk]
  | slice elems spare => simp [Rows.uptoBulk]
  | agg parts => simp [Rows.uptoBulk]
  | iface t d => simp [Rows.uptoBulk]
  | map entries => simp [Rows.uptoBulk]
  | held h => simp [Rows.uptoBulk]
theorem bulk_length {H : Type} (l : List (DataW H)) : l.length ≤ Rows.uptoBulkAll l := by
  induction l with
  | nil => simp [Rows.uptoBulkAll]
  | cons x r ih => have := bulk_one x; simp only [Rows.uptoBulkAll, List.length_cons]; omega
theorem bulk_row {H : Type} (k : IntKind) (A : Option Addr) (L : Nat) (z : List Int) (h : A = none → z.length = 0) : (z.take L).length ≤ Rows.uptoBulk (Deep.intRow (H := H) k A L z) := by
  cases A with
  | none => rw [List.length_take, h rfl]; exact Nat.le_trans (Nat.min_le_right _ _) (Nat.zero_le _)
  | some a =>
    have h1 := bulk_length (lits (H := H) k (z.take L))
    have e : (lits (H := H) k (z.take L)).length = (z.take L).length := by simp [lits]
    simp only [Deep.intRow, Rows.uptoBulk]
    omega
theorem bulk_rows {H : Type} (k : IntKind) (A : Nat → Option Addr) (L : Nat → Nat) (Z : Nat → List Int) : ∀ rs : List Nat, (∀ r ∈ rs, A r = none → (Z r).length = 0) →
    ((rs.map fun r => (Z r).take (L r)).flatten).length ≤ Rows.uptoBulkAll (rs.map fun r => Deep.intRow (H := H) k (A r) (L r) (Z r))
  | [], _ => by simp
  | r :: rs, h => by
    have h1 := bulk_row (H := H) k (A r) (L r) (Z r) (h r (List.mem_cons_self))
    have h2 := bulk_rows (H := H) k A L Z rs (fun q hq => h q (List.mem_cons_of_mem _ hq))
    simp only [List.map_cons, List.flatten_cons, List.length_append, Rows.uptoBulkAll]
    omega
/-! ### the rows, read -/
theorem rows_read {w : World} {a : Addr} {len cap : Nat} {A : Nat → Option Addr} {L C : Nat → Nat} {Z : Nat → List Int} (hl : len ≤ cap) (hm : cap ≤ maxLen)
    (h : ∀ r, r < cap → w.cell? (a.add r) = some (.slice (A r) (L r) (C r)) ∧ L r ≤ C r ∧ C r ≤ maxLen ∧ (Z r).length = C r ∧ (∀ n ∈ Z r, (Lit.int .u8 n).wf = true) ∧ (A r = none → C r = 0) ∧
      ∀ a', A r = some a' → 0 ≤ a'.block ∧ ∀ c, c < C r → w.cell? (a'.add c) = some (.int .u8 ((Z r).getD c 0))) :
    Kd.C (Kd.slice 5 (Kd.int .u8)) w (some a) len ((List.range len).map fun r => (Z r).take (L r)) := by
  refine ⟨by simp, by unfold maxLen at hm; omega, fun _ => ⟨a, rfl, fun j p hj => ?_⟩⟩
  obtain ⟨hjl, e⟩ := List.getElem?_eq_some_iff.1 hj
  have hj2 : j < len := by simpa using hjl
  have e2 : p = (Z j).take (L j) := by simpa using e.symm
  obtain ⟨hc, h1, h2, h3, h4, h5, h6⟩ := h j (by omega)
  have hpl : p.length = L j := by rw [e2, List.length_take]; omega
  refine ⟨[.slice (A j) p.length (C j)], rfl, ⟨A j, C j, rfl, by omega, ?_⟩, fun i u hu => ?_⟩
  · refine Kd.C_of_reads (d := (0 : Int)) (h1 := fun _ => rfl) ?_
    refine ⟨rfl, by unfold maxLen at h2; omega, fun hn => ?_⟩
    cases hA : A j with
    | none => have := h5 hA; omega
    | some a' =>
      refine ⟨a', rfl, fun c hcl => ?_⟩
      have := (h6 a' hA).2 c (by omega)
      rw [this]
      congr 2
      rw [e2, List.getD_eq_getElem?_getD, List.getD_eq_getElem?_getD, List.getElem?_take, if_pos (by omega)]
  · cases i with
    | zero =>
      have : u = .slice (A j) p.length (C j) := by simpa using hu.symm
      rw [this, hpl, show j * (Kd.slice 5 (Kd.int .u8)).sz + 0 = j from Nat.mul_one j]
      exact hc
    | succ i => simp at hu
theorem bytes_row {z : List Int} (h : ∀ n ∈ z, (Lit.int .u8 n).wf = true) (L : Nat) : Bytes (z.take L) := by
  intro x hx
  have := h x (List.mem_of_mem_take hx)
  simp [Lit.wf, IntKind.min, IntKind.max, IntKind.signed, IntKind.bits] at this
  omega
/-- Parts that are read, each a row of bytes. -/
def partsAt (w : World) (A : Option Addr) (ls : List (List Int)) : Prop := Kd.C (Kd.slice 5 (Kd.int .u8)) w A ls.length ls
/-! ### the walk -/
theorem lists_toN {ls : List (List Int)} (h : ∀ l ∈ ls, Bytes l) : (ls.map toN).map iN = ls := by
  rw [List.map_map]
  refine (List.map_congr_left (g := id) (fun l hl => ?_)).trans (List.map_id _)
  exact iN_toN (h l hl)
theorem flat_toN : ∀ ls : List (List Int), (ls.map toN).flatten.length = ls.flatten.length
  | [] => rfl
  | l :: ls => by
    simp only [List.map_cons, List.flatten_cons, List.length_append, toN_length]
    rw [flat_toN ls]
theorem matches_walk (A0 : Option Addr) (c0 : Nat) (ls : List (List Int)) (w : World) (hr0 : partsAt w A0 ls) (hc0 : ls.length ≤ c0) (hb : ∀ l ∈ ls, Bytes l) (hs : ls.flatten.length ≤ 1048576) (hn : ls.length ≤ 1048576) :
    Calls Try.prog 3 #[.slice A0 ls.length c0] w fun e w' => e = .returned (.bool true) ∧ Below w.heap.size w w' := by
  have hbl : ByteL (ls.map toN) := by
    intro l hl
    obtain ⟨l', hl', rfl⟩ := List.mem_map.1 hl
    exact byteN_toN (hb l' hl')
  obtain ⟨k, hk⟩ := (matches_pure hbl (by rw [flat_toN]; omega) (by rw [List.length_map]; omega)).rounds
  rw [lists_toN hb] at hk
  exact wharflaw05_CrcMatchesReference.calls k A0 c0 ls true w hr0 hc0 hk
end Go.Proofs.Ytfhnakebfiaccaa.P
