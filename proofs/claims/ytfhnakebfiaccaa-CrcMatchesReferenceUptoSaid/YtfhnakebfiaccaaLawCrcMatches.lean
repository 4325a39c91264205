/- For every list of parts that is read, where what it reads is of the given bulk at most: the law CrcMatchesReference returns true, and its argument reads behind the call as it read before. -/
import Derived.Test.YtfhnakebfiaccaaMt
import Derived.WalkKit
import Derived.ProofKit
import Derived.OpenShut
import Derived.ShutString
import Derived.ChangeOld
import Derived.Below
import Derived.JoinedCond
namespace Go.Proofs.Ytfhnakebfiaccaa.crcMatches
open Go.ChangeShapes Go.WideShapes Go.ChangeAt Go.RowKit
set_option linter.unusedVariables false
theorem own : ownKnob Try.prog.godebug = none := by kernel_rfl
theorem laidOut : laidOutB Try.prog = true := by kernel_rfl
set_option maxRecDepth 100000 in
theorem contract (H : Type) (enc : TypeId × Value → H) (W : World) (base : Nat) (args : Array Value) (ds gs : List (DataW H)) (before : List MemPlace)
    (hval0 : ∀ (j : Nat) t v, Try.f3.params[j]? = some t → args[j]? = some v → Value.okWide Try.prog W .any base t v)
    (hW : DataW.Whole enc Try.prog Try.f3.params.toList Rows.crcMatchesReferenceSpec.vars false W args.toList ds gs before) (hk : Rows.uptoSmall H (ds ++ gs) = true) :
    Calls Try.prog 3 args W fun e W' => ∃ v, e = .returned v ∧ Rows.crcMatchesReferenceSpec.post enc Try.prog Try.f3 false true false false W args v W' := by
  have hval : ∀ (j : Nat) t v, Try.f3.params[j]? = some t → args[j]? = some v → Value.okWide Try.prog W .any base t v := hval0
  have hW' := hW
  obtain ⟨p, q, hA0, hV, rfl, hfz, hnd⟩ := hW
  have hA : DataW.TrodAll enc Try.prog W 0 (fun _ => true) true Try.f3.params.toList args.toList ds p := hA0
  rw [Try.params3] at hA hval
  obtain ⟨v0, vs0, d0, ds0, p0, q0, hargs, rfl, rfl, h0, r0⟩ := trodAll_cons hA
  obtain ⟨rfl, rfl, rfl⟩ := trodAll_nil r0
  obtain rfl : args = #[v0] := by cases args; simp_all
  obtain ⟨rfl, rfl⟩ := trodVars_none hV
  obtain ⟨a0, len0, cap0, rfl⟩ := okWide_slice Try.underlying22 (hval 0 22 v0 rfl rfl)
  have k0 := h0
  have lt0 : ∀ x ∈ p0, x.block < W.heap.size := by obtain ⟨m, hm⟩ := k0; exact DataW.trod_lt m _ _ _ hm
  have hb : Rows.uptoBulkAll [d0] ≤ 1048576 := of_decide_eq_true hk
  have main : ∃ ls : List (List Int), len0 = ls.length ∧ ls.length ≤ cap0 ∧ P.partsAt W a0 ls ∧ (∀ l ∈ ls, M.Bytes l) ∧ ls.flatten.length ≤ 1048576 ∧ ls.length ≤ 1048576 := by
    obtain ⟨fuel, hf⟩ := h0
    rcases Deep.open_int_rows Try.underlying22 Try.underlying24 Try.underlying5 (by kernel_rfl) (by kernel_rfl) hf with ⟨hcs, _⟩ | ⟨a, len, cap, A, L, C, Z, hcs, _, hl, hm, hx, hrow⟩
    · simp [Value.cells] at hcs
      obtain ⟨rfl, rfl, rfl⟩ := hcs
      exact ⟨[], rfl, Nat.zero_le _, ⟨rfl, Nat.zero_le _, fun h => absurd h (Nat.lt_irrefl _)⟩, (fun l hl => by cases hl), Nat.zero_le _, Nat.zero_le _⟩
    · simp [Value.cells] at hcs
      obtain ⟨rfl, rfl, rfl⟩ := hcs
      obtain ⟨hx, _⟩ := Prod.mk.inj hx
      subst hx
      have hnone : ∀ r ∈ List.range len0, A r = none → (Z r).length = 0 := by
        intro r hr hA
        have := hrow r (by have := List.mem_range.1 hr; omega)
        rw [this.2.2.2.1]
        exact this.2.2.2.2.2.1 hA
      have h1 := P.bulk_rows (H := H) .u8 A L Z (List.range len0) hnone
      have h2 := P.bulk_length ((List.range len0).map fun r => Deep.intRow (H := H) .u8 (A r) (L r) (Z r))
      rw [List.length_map, List.length_range] at h2
      simp only [Rows.uptoBulkAll, Rows.uptoBulk] at hb
      have hlen : ((List.range len0).map fun r => (Z r).take (L r)).length = len0 := by simp
      refine ⟨(List.range len0).map fun r => (Z r).take (L r), hlen.symm, by omega, ?_, fun l hl => ?_, by omega, by omega⟩
      · have := P.rows_read (w := W) hl hm hrow
        show P.partsAt W (some a) _
        unfold P.partsAt
        rw [hlen]
        exact this
      · obtain ⟨r, hr, rfl⟩ := List.mem_map.1 hl
        exact P.bytes_row (hrow r (by have := List.mem_range.1 hr; omega)).2.2.2.2.1 _
  obtain ⟨ls, rfl, hc0, hC, hby, hfl, hln⟩ := main
  clear hA0 hval0 h0 hb
  simp only [List.append_nil] at hW'
  refine (P.matches_walk a0 cap0 ls W hC hc0 hby hfl hln).mono fun e W' ⟨he, bel⟩ => ?_
  subst he
  exact ⟨_, rfl, _, _, _, [], _, [], hW', trodAll_mk1 (shut_bool Try.underlying4 _), (trodAll_cons_mk (Below.trod laidOut (by kernel_rfl) (of_decide_eq_true (by kernel_rfl)) k0 bel lt0) trodAll_mk0), rfl, bel.frame _, fun h => by cases h⟩
set_option maxRecDepth 100000 in
theorem lifted (os : Os) (started : os.Started) (H : Type) (enc : TypeId × Value → H) (F : Stop.Interp) :
    ReturnsInHanded {} Try.checked os 3 .any ((Rows.OpenSpec.upto Rows.crcMatchesReferenceSpec).pre6 enc Try.prog Try.f3 Rows.crcMatchesReferenceUptoRow.domain false) (((Rows.OpenSpec.upto Rows.crcMatchesReferenceSpec).at F).post enc Try.prog Try.f3 false true false false) := by
  refine returnsInHanded_of_cond (C := Try.checked) (s := Rows.OpenSpec.upto Rows.crcMatchesReferenceSpec) (k := Rows.uptoSmall) rfl own started (by kernel_rfl) Try.func3
    (OpenSpec.witness (enc := enc) (C := Try.checked) (s := Rows.OpenSpec.upto Rows.crcMatchesReferenceSpec) (k := Rows.uptoSmall) rfl false ⟨#[], #[.slice none 0 0], []⟩ 8 (by kernel_rfl) (by kernel_rfl) (by kernel_rfl)
      (x := ([.nil], [], [])) (by kernel_rfl) rfl (by kernel_rfl)) ?_
  intro W base args ds gs before hval hW _ hk _
  exact contract H enc W base args ds gs before hval hW hk
theorem proved : Rows.CrcMatchesReferenceUptoSaid :=
  OpenClaim.holds_of_cond 3 Try.f3 rfl rfl rfl rfl rfl rfl rfl ⟨rfl, rfl, rfl, rfl, rfl⟩ rfl rfl rfl rfl rfl (by kernel_rfl) Try.func3 (by kernel_rfl)
    (of_decide_eq_true (by kernel_rfl)) (by unfold Func.isWrapper; first | (rw [if_pos (by decide +kernel)]; kernel_rfl) | (rw [if_neg (by decide +kernel)]; exact ⟨rfl, rfl⟩))
    (fun os started H enc _ F => lifted os started H enc F)
#print axioms proved
end Go.Proofs.Ytfhnakebfiaccaa.crcMatches
namespace Go.Proofs.Ytfhnakebfiaccaa
/-- The row, under a short name, for the claim. -/
theorem crcMatches_holds : Rows.CrcMatchesReferenceUptoSaid := crcMatches.proved
end Go.Proofs.Ytfhnakebfiaccaa
