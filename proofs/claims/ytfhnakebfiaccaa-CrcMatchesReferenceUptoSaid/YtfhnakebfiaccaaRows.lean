/-
  No cell of these rows narrows 'for every input' (looked for: loops, veiled, ifaces, maps, wideKeys, modest, calm, conditions, laid).
  DERIVED. THE GIVEN ROWS OF THIS SEAT. 5 by the template 'for every input the law returns true; each argument reads behind the call as it read before'; 0 by the template 'total and deterministic' (their statements: YtfhnakebfiaccaaTotals.lean).
  GIVEN WITH THE SEED: the statements are not yours to turn. If you find one false, say at which input.
  Laid BY PROGRAM, IN A SANDBOX (cutbox-rows.mjs): the forced cells as the released guide's own fill.sh prints them over the translation a4ac3bdc81c078af… (all of the seat's roots in one cut). By AI agents, Wed Nov 11 2026. No macro, syntax, notation, axiom, sorry.
-/
import Derived.Test.YtfhnakebfiaccaaChecked
import GoSem.Claim
import GoSem.ClaimJoined
import GoSem.ClaimMapViews
import Derived.JoinedTies
import Derived.KernelRfl
namespace Go.Proofs.Ytfhnakebfiaccaa
/- THE CELL 'sum', in the pinned program and in every row, IS THE sha256 OF THE DUMP (.gsa) THAT YtfhnakebfiaccaaProg.lean LOADS. Nothing in Lean hashes anything: it is a label: what it is worth is what the hold of that sum in a sandbox is worth. -/
noncomputable def Try.pinned : Pinned := { name := "ytfhnakebfiaccaa", sum := "a4ac3bdc81c078aff780df6faae6449ab8fbd3bff7521b5613a2481c8727e0d1", checked := Try.checked }
namespace Rows
def none {H : Type} : Left H := { results := [], args := [] }

/-- 'wharflaw05.CrcMatchesReference': WHATEVER THE INPUT: true; the input reads as it did. -/
def crcMatchesReferenceSpec : ChangeSpec := { name := "crcMatchesReference", fn := fun _ => fun
  | [d] => { results := [.lit (.bool true)], args := [d] }
  | _ => none }
def crcMatchesReferenceRow : OpenClaim := { program := "ytfhnakebfiaccaa", sum := "a4ac3bdc81c078aff780df6faae6449ab8fbd3bff7521b5613a2481c8727e0d1", func := "wharf/wharflaw05.CrcMatchesReference", spec := "crcMatchesReference", unfollowed := true, recurses := true, apart := false }
def CrcMatchesReferenceSaid : Prop := crcMatchesReferenceRow.holds Try.pinned (OpenSpec.ofChange crcMatchesReferenceSpec)

/-- ITS FALSE NEIGHBOUR: 'it returns false'. Refute it at one input. -/
def crcMatchesReferenceWrong : ChangeSpec := { name := "crcMatchesReference", fn := fun _ => fun
  | [d] => { results := [.lit (.bool false)], args := [d] }
  | _ => none }
def CrcMatchesReferenceWrongFalsely : Prop := crcMatchesReferenceRow.holds Try.pinned (OpenSpec.ofChange crcMatchesReferenceWrong)

/-- 'wharflaw05.CrcPackets': WHATEVER THE INPUT: true; the input reads as it did. -/
def crcPacketsSpec : ChangeSpec := { name := "crcPackets", fn := fun _ => fun
  | [d] => { results := [.lit (.bool true)], args := [d] }
  | _ => none }
def crcPacketsRow : OpenClaim := { program := "ytfhnakebfiaccaa", sum := "a4ac3bdc81c078aff780df6faae6449ab8fbd3bff7521b5613a2481c8727e0d1", func := "wharf/wharflaw05.CrcPackets", spec := "crcPackets", unfollowed := true, recurses := true, apart := false }
def CrcPacketsSaid : Prop := crcPacketsRow.holds Try.pinned (OpenSpec.ofChange crcPacketsSpec)

/-- ITS FALSE NEIGHBOUR: 'it returns false'. Refute it at one input. -/
def crcPacketsWrong : ChangeSpec := { name := "crcPackets", fn := fun _ => fun
  | [d] => { results := [.lit (.bool false)], args := [d] }
  | _ => none }
def CrcPacketsWrongFalsely : Prop := crcPacketsRow.holds Try.pinned (OpenSpec.ofChange crcPacketsWrong)

/-- 'wharflaw05.CrcFlips': WHATEVER THE INPUT: true; the input reads as it did. -/
def crcFlipsSpec : ChangeSpec := { name := "crcFlips", fn := fun _ => fun
  | [d1, d2, d3, d4] => { results := [.lit (.bool true)], args := [d1, d2, d3, d4] }
  | _ => none }
def crcFlipsRow : OpenClaim := { program := "ytfhnakebfiaccaa", sum := "a4ac3bdc81c078aff780df6faae6449ab8fbd3bff7521b5613a2481c8727e0d1", func := "wharf/wharflaw05.CrcFlips", spec := "crcFlips", unfollowed := true, recurses := true, apart := false }
def CrcFlipsSaid : Prop := crcFlipsRow.holds Try.pinned (OpenSpec.ofChange crcFlipsSpec)

/-- ITS FALSE NEIGHBOUR: 'it returns false'. Refute it at one input. -/
def crcFlipsWrong : ChangeSpec := { name := "crcFlips", fn := fun _ => fun
  | [d1, d2, d3, d4] => { results := [.lit (.bool false)], args := [d1, d2, d3, d4] }
  | _ => none }
def CrcFlipsWrongFalsely : Prop := crcFlipsRow.holds Try.pinned (OpenSpec.ofChange crcFlipsWrong)

/-- 'wharflaw05.CrcBursts': WHATEVER THE INPUT: true; the input reads as it did. -/
def crcBurstsSpec : ChangeSpec := { name := "crcBursts", fn := fun _ => fun
  | [d1, d2, d3, d4, d5] => { results := [.lit (.bool true)], args := [d1, d2, d3, d4, d5] }
  | _ => none }
def crcBurstsRow : OpenClaim := { program := "ytfhnakebfiaccaa", sum := "a4ac3bdc81c078aff780df6faae6449ab8fbd3bff7521b5613a2481c8727e0d1", func := "wharf/wharflaw05.CrcBursts", spec := "crcBursts", unfollowed := true, recurses := true, apart := false }
def CrcBurstsSaid : Prop := crcBurstsRow.holds Try.pinned (OpenSpec.ofChange crcBurstsSpec)

/-- ITS FALSE NEIGHBOUR: 'it returns false'. Refute it at one input. -/
def crcBurstsWrong : ChangeSpec := { name := "crcBursts", fn := fun _ => fun
  | [d1, d2, d3, d4, d5] => { results := [.lit (.bool false)], args := [d1, d2, d3, d4, d5] }
  | _ => none }
def CrcBurstsWrongFalsely : Prop := crcBurstsRow.holds Try.pinned (OpenSpec.ofChange crcBurstsWrong)

/-- 'wharflaw05.CrcZeros': WHATEVER THE INPUT: true; the input reads as it did. -/
def crcZerosSpec : ChangeSpec := { name := "crcZeros", fn := fun _ => fun
  | [d1, d2] => { results := [.lit (.bool true)], args := [d1, d2] }
  | _ => none }
def crcZerosRow : OpenClaim := { program := "ytfhnakebfiaccaa", sum := "a4ac3bdc81c078aff780df6faae6449ab8fbd3bff7521b5613a2481c8727e0d1", func := "wharf/wharflaw05.CrcZeros", spec := "crcZeros", unfollowed := true, recurses := true, apart := false }
def CrcZerosSaid : Prop := crcZerosRow.holds Try.pinned (OpenSpec.ofChange crcZerosSpec)

/-- ITS FALSE NEIGHBOUR: 'it returns false'. Refute it at one input. -/
def crcZerosWrong : ChangeSpec := { name := "crcZeros", fn := fun _ => fun
  | [d1, d2] => { results := [.lit (.bool false)], args := [d1, d2] }
  | _ => none }
def CrcZerosWrongFalsely : Prop := crcZerosRow.holds Try.pinned (OpenSpec.ofChange crcZerosWrong)

/- THE SECOND FORM. 'bulk': how many values and letters a reading holds, each counted each time it is reached (what is shared counts as often as it is met; a slice's spare places count too). A statement '..UptoSaid' is the law's where the arguments, and the package variables that the reading takes, are together of bulk at most 1048576: NARROWER than '..Said'. Prove '..Said' where nothing that the law and all that it calls make is longer than what came in: it says more and counts as full. Else prove '..UptoSaid'. A law counts once. -/
mutual
def uptoBulk {H : Type} : DataW H → Nat
  | .lit (.string bytes) => bytes.length + 1
  | .lit _ => 1
  | .nil => 1
  | .ptr d => uptoBulk d + 1
  | .slice elems spare => uptoBulkAll elems + uptoBulkAll spare + 1
  | .agg parts => uptoBulkAll parts + 1
  | .iface _ d => uptoBulk d + 1
  | .map entries => uptoBulkEntries entries + 1
  | .held _ => 1
def uptoBulkAll {H : Type} : List (DataW H) → Nat
  | [] => 0
  | d :: r => uptoBulk d + uptoBulkAll r
def uptoBulkEntries {H : Type} : List (Lit × DataW H) → Nat
  | [] => 0
  | x :: r => uptoBulkEntry x + uptoBulkEntries r
def uptoBulkEntry {H : Type} : Lit × DataW H → Nat
  | (.string bytes, d) => bytes.length + uptoBulk d + 1
  | (_, d) => uptoBulk d + 1
 end
def uptoSmall : (H : Type) → List (DataW H) → Bool := fun _ ds => decide (uptoBulkAll ds ≤ 1048576)
def OpenSpec.upto (s : _root_.Go.ChangeSpec) : _root_.Go.OpenSpec := { _root_.Go.OpenSpec.ofChange s with cond := some uptoSmall }

/-- 'wharflaw05.CrcMatchesReference', WHERE WHAT IT READS IS OF BULK AT MOST 1048576: true; the input reads as it did. -/
def crcMatchesReferenceUptoRow : OpenClaim := { program := "ytfhnakebfiaccaa", sum := "a4ac3bdc81c078aff780df6faae6449ab8fbd3bff7521b5613a2481c8727e0d1", func := "wharf/wharflaw05.CrcMatchesReference", spec := "crcMatchesReference", unfollowed := true, recurses := true, apart := false, narrowed := true }
def CrcMatchesReferenceUptoSaid : Prop := crcMatchesReferenceUptoRow.holds Try.pinned (OpenSpec.upto crcMatchesReferenceSpec)

/-- 'wharflaw05.CrcPackets', WHERE WHAT IT READS IS OF BULK AT MOST 1048576: true; the input reads as it did. -/
def crcPacketsUptoRow : OpenClaim := { program := "ytfhnakebfiaccaa", sum := "a4ac3bdc81c078aff780df6faae6449ab8fbd3bff7521b5613a2481c8727e0d1", func := "wharf/wharflaw05.CrcPackets", spec := "crcPackets", unfollowed := true, recurses := true, apart := false, narrowed := true }
def CrcPacketsUptoSaid : Prop := crcPacketsUptoRow.holds Try.pinned (OpenSpec.upto crcPacketsSpec)

/-- 'wharflaw05.CrcFlips', WHERE WHAT IT READS IS OF BULK AT MOST 1048576: true; the input reads as it did. -/
def crcFlipsUptoRow : OpenClaim := { program := "ytfhnakebfiaccaa", sum := "a4ac3bdc81c078aff780df6faae6449ab8fbd3bff7521b5613a2481c8727e0d1", func := "wharf/wharflaw05.CrcFlips", spec := "crcFlips", unfollowed := true, recurses := true, apart := false, narrowed := true }
def CrcFlipsUptoSaid : Prop := crcFlipsUptoRow.holds Try.pinned (OpenSpec.upto crcFlipsSpec)

/-- 'wharflaw05.CrcBursts', WHERE WHAT IT READS IS OF BULK AT MOST 1048576: true; the input reads as it did. -/
def crcBurstsUptoRow : OpenClaim := { program := "ytfhnakebfiaccaa", sum := "a4ac3bdc81c078aff780df6faae6449ab8fbd3bff7521b5613a2481c8727e0d1", func := "wharf/wharflaw05.CrcBursts", spec := "crcBursts", unfollowed := true, recurses := true, apart := false, narrowed := true }
def CrcBurstsUptoSaid : Prop := crcBurstsUptoRow.holds Try.pinned (OpenSpec.upto crcBurstsSpec)

/-- 'wharflaw05.CrcZeros', WHERE WHAT IT READS IS OF BULK AT MOST 1048576: true; the input reads as it did. -/
def crcZerosUptoRow : OpenClaim := { program := "ytfhnakebfiaccaa", sum := "a4ac3bdc81c078aff780df6faae6449ab8fbd3bff7521b5613a2481c8727e0d1", func := "wharf/wharflaw05.CrcZeros", spec := "crcZeros", unfollowed := true, recurses := true, apart := false, narrowed := true }
def CrcZerosUptoSaid : Prop := crcZerosUptoRow.holds Try.pinned (OpenSpec.upto crcZerosSpec)

end Rows
end Go.Proofs.Ytfhnakebfiaccaa
