/-
  No cell of these rows narrows 'for every input' (looked for: loops, veiled, ifaces, maps, wideKeys, modest, calm, conditions, laid).
  DERIVED. THE GIVEN ROWS OF THIS SEAT. 5 by the template 'for every input the law returns true; each argument reads behind the call as it read before'; 0 by the template 'total and deterministic' (their statements: YtlkngkbhopbflaaTotals.lean).
  GIVEN WITH THE SEED: the statements are not yours to turn. If you find one false, say at which input.
  Laid BY PROGRAM, IN A SANDBOX (cutbox-rows.mjs): the forced cells as the released guide's own fill.sh prints them over the translation 3ce07c2ed09a1c7b… (all of the seat's roots in one cut). By AI agents, Wed Nov 11 2026. No macro, syntax, notation, axiom, sorry.
-/
import Derived.Test.YtlkngkbhopbflaaChecked
import GoSem.Claim
import GoSem.ClaimJoined
import GoSem.ClaimMapViews
import Derived.JoinedTies
import Derived.KernelRfl
namespace Go.Proofs.Ytlkngkbhopbflaa
/- THE CELL 'sum', in the pinned program and in every row, IS THE sha256 OF THE DUMP (.gsa) THAT YtlkngkbhopbflaaProg.lean LOADS. Nothing in Lean hashes anything: it is a label: what it is worth is what the hold of that sum in a sandbox is worth. -/
noncomputable def Try.pinned : Pinned := { name := "ytlkngkbhopbflaa", sum := "3ce07c2ed09a1c7bb10bc2b1b3069f628500a96287ac6dda1d43e7fdfd997e3e", checked := Try.checked }
namespace Rows
def none {H : Type} : Left H := { results := [], args := [] }

/-- 'watchwordlaw0.WatchwordNames': WHATEVER THE INPUT: true; the input reads as it did. -/
def watchwordNamesSpec : ChangeSpec := { name := "watchwordNames", fn := fun _ => fun
  | [] => { results := [.lit (.bool true)], args := [] }
  | _ => none }
def watchwordNamesRow : OpenClaim := { program := "ytlkngkbhopbflaa", sum := "3ce07c2ed09a1c7bb10bc2b1b3069f628500a96287ac6dda1d43e7fdfd997e3e", func := "watchword/watchwordlaw0.WatchwordNames", spec := "watchwordNames", apart := false }
def WatchwordNamesSaid : Prop := watchwordNamesRow.holds Try.pinned (OpenSpec.ofChange watchwordNamesSpec)

/-- ITS FALSE NEIGHBOUR: 'it returns false'. Refute it at one input. -/
def watchwordNamesWrong : ChangeSpec := { name := "watchwordNames", fn := fun _ => fun
  | [] => { results := [.lit (.bool false)], args := [] }
  | _ => none }
def WatchwordNamesWrongFalsely : Prop := watchwordNamesRow.holds Try.pinned (OpenSpec.ofChange watchwordNamesWrong)

/-- 'watchwordlaw6.Fletches': WHATEVER THE INPUT: true; the input reads as it did. -/
def fletchesSpec : ChangeSpec := { name := "fletches", fn := fun _ => fun
  | [d] => { results := [.lit (.bool true)], args := [d] }
  | _ => none }
def fletchesRow : OpenClaim := { program := "ytlkngkbhopbflaa", sum := "3ce07c2ed09a1c7bb10bc2b1b3069f628500a96287ac6dda1d43e7fdfd997e3e", func := "watchword/watchwordlaw6.Fletches", spec := "fletches", apart := false }
def FletchesSaid : Prop := fletchesRow.holds Try.pinned (OpenSpec.ofChange fletchesSpec)

/-- ITS FALSE NEIGHBOUR: 'it returns false'. Refute it at one input. -/
def fletchesWrong : ChangeSpec := { name := "fletches", fn := fun _ => fun
  | [d] => { results := [.lit (.bool false)], args := [d] }
  | _ => none }
def FletchesWrongFalsely : Prop := fletchesRow.holds Try.pinned (OpenSpec.ofChange fletchesWrong)

/-- 'watchwordlaw6.FletchTurned': WHATEVER THE INPUT: true; the input reads as it did. -/
def fletchTurnedSpec : ChangeSpec := { name := "fletchTurned", fn := fun _ => fun
  | [d1, d2, d3] => { results := [.lit (.bool true)], args := [d1, d2, d3] }
  | _ => none }
def fletchTurnedRow : OpenClaim := { program := "ytlkngkbhopbflaa", sum := "3ce07c2ed09a1c7bb10bc2b1b3069f628500a96287ac6dda1d43e7fdfd997e3e", func := "watchword/watchwordlaw6.FletchTurned", spec := "fletchTurned", apart := false }
def FletchTurnedSaid : Prop := fletchTurnedRow.holds Try.pinned (OpenSpec.ofChange fletchTurnedSpec)

/-- ITS FALSE NEIGHBOUR: 'it returns false'. Refute it at one input. -/
def fletchTurnedWrong : ChangeSpec := { name := "fletchTurned", fn := fun _ => fun
  | [d1, d2, d3] => { results := [.lit (.bool false)], args := [d1, d2, d3] }
  | _ => none }
def FletchTurnedWrongFalsely : Prop := fletchTurnedRow.holds Try.pinned (OpenSpec.ofChange fletchTurnedWrong)

/-- 'watchwordlaw6.FletchSwaps': WHATEVER THE INPUT: true; the input reads as it did. -/
def fletchSwapsSpec : ChangeSpec := { name := "fletchSwaps", fn := fun _ => fun
  | [d1, d2] => { results := [.lit (.bool true)], args := [d1, d2] }
  | _ => none }
def fletchSwapsRow : OpenClaim := { program := "ytlkngkbhopbflaa", sum := "3ce07c2ed09a1c7bb10bc2b1b3069f628500a96287ac6dda1d43e7fdfd997e3e", func := "watchword/watchwordlaw6.FletchSwaps", spec := "fletchSwaps", apart := false }
def FletchSwapsSaid : Prop := fletchSwapsRow.holds Try.pinned (OpenSpec.ofChange fletchSwapsSpec)

/-- ITS FALSE NEIGHBOUR: 'it returns false'. Refute it at one input. -/
def fletchSwapsWrong : ChangeSpec := { name := "fletchSwaps", fn := fun _ => fun
  | [d1, d2] => { results := [.lit (.bool false)], args := [d1, d2] }
  | _ => none }
def FletchSwapsWrongFalsely : Prop := fletchSwapsRow.holds Try.pinned (OpenSpec.ofChange fletchSwapsWrong)

/-- 'watchwordlaw6.FletchBehind': WHATEVER THE INPUT: true; the input reads as it did. -/
def fletchBehindSpec : ChangeSpec := { name := "fletchBehind", fn := fun _ => fun
  | [d1, d2, d3] => { results := [.lit (.bool true)], args := [d1, d2, d3] }
  | _ => none }
def fletchBehindRow : OpenClaim := { program := "ytlkngkbhopbflaa", sum := "3ce07c2ed09a1c7bb10bc2b1b3069f628500a96287ac6dda1d43e7fdfd997e3e", func := "watchword/watchwordlaw6.FletchBehind", spec := "fletchBehind", apart := false }
def FletchBehindSaid : Prop := fletchBehindRow.holds Try.pinned (OpenSpec.ofChange fletchBehindSpec)

/-- ITS FALSE NEIGHBOUR: 'it returns false'. Refute it at one input. -/
def fletchBehindWrong : ChangeSpec := { name := "fletchBehind", fn := fun _ => fun
  | [d1, d2, d3] => { results := [.lit (.bool false)], args := [d1, d2, d3] }
  | _ => none }
def FletchBehindWrongFalsely : Prop := fletchBehindRow.holds Try.pinned (OpenSpec.ofChange fletchBehindWrong)

/- THE SECOND FORM. 'bulk': how many values and letters a reading holds, each counted each time it is reached (what is shared counts as often as it is met; a slice's spare places count too). A statement '..UptoSaid' is the law's where the arguments, and the package variables that the reading takes, are together of bulk at most 1048576: NARROWER than '..Said'. Prove '..Said' where nothing that the law and all that it calls make is longer than what came in: it says more and counts as full. Else prove '..UptoSaid'. A law counts once. -/
mutual
def uptoBulk {H : Type} : DataW H → Nat
  | .lit (.string bytes) => bytes.length + 1
  | .lit _ => 1
  | .nil => 1
  | .ptr d => uptoBulk d + 1
  | .slice elems spare => uptoBulkAll elems + uptoBulkAll spare + 1
  | .agg parts => uptoBulkAll parts + 1
  | .iface _ d => uptoBulk d + 1
  | .map entries => uptoBulkEntries entries + 1
  | .held _ => 1
def uptoBulkAll {H : Type} : List (DataW H) → Nat
  | [] => 0
  | d :: r => uptoBulk d + uptoBulkAll r
def uptoBulkEntries {H : Type} : List (Lit × DataW H) → Nat
  | [] => 0
  | x :: r => uptoBulkEntry x + uptoBulkEntries r
def uptoBulkEntry {H : Type} : Lit × DataW H → Nat
  | (.string bytes, d) => bytes.length + uptoBulk d + 1
  | (_, d) => uptoBulk d + 1
 end
def uptoSmall : (H : Type) → List (DataW H) → Bool := fun _ ds => decide (uptoBulkAll ds ≤ 1048576)
def OpenSpec.upto (s : _root_.Go.ChangeSpec) : _root_.Go.OpenSpec := { _root_.Go.OpenSpec.ofChange s with cond := some uptoSmall }

/-- 'watchwordlaw0.WatchwordNames', WHERE WHAT IT READS IS OF BULK AT MOST 1048576: true; the input reads as it did. -/
def watchwordNamesUptoRow : OpenClaim := { program := "ytlkngkbhopbflaa", sum := "3ce07c2ed09a1c7bb10bc2b1b3069f628500a96287ac6dda1d43e7fdfd997e3e", func := "watchword/watchwordlaw0.WatchwordNames", spec := "watchwordNames", apart := false, narrowed := true }
def WatchwordNamesUptoSaid : Prop := watchwordNamesUptoRow.holds Try.pinned (OpenSpec.upto watchwordNamesSpec)

/-- 'watchwordlaw6.Fletches', WHERE WHAT IT READS IS OF BULK AT MOST 1048576: true; the input reads as it did. -/
def fletchesUptoRow : OpenClaim := { program := "ytlkngkbhopbflaa", sum := "3ce07c2ed09a1c7bb10bc2b1b3069f628500a96287ac6dda1d43e7fdfd997e3e", func := "watchword/watchwordlaw6.Fletches", spec := "fletches", apart := false, narrowed := true }
def FletchesUptoSaid : Prop := fletchesUptoRow.holds Try.pinned (OpenSpec.upto fletchesSpec)

/-- 'watchwordlaw6.FletchTurned', WHERE WHAT IT READS IS OF BULK AT MOST 1048576: true; the input reads as it did. -/
def fletchTurnedUptoRow : OpenClaim := { program := "ytlkngkbhopbflaa", sum := "3ce07c2ed09a1c7bb10bc2b1b3069f628500a96287ac6dda1d43e7fdfd997e3e", func := "watchword/watchwordlaw6.FletchTurned", spec := "fletchTurned", apart := false, narrowed := true }
def FletchTurnedUptoSaid : Prop := fletchTurnedUptoRow.holds Try.pinned (OpenSpec.upto fletchTurnedSpec)

/-- 'watchwordlaw6.FletchSwaps', WHERE WHAT IT READS IS OF BULK AT MOST 1048576: true; the input reads as it did. -/
def fletchSwapsUptoRow : OpenClaim := { program := "ytlkngkbhopbflaa", sum := "3ce07c2ed09a1c7bb10bc2b1b3069f628500a96287ac6dda1d43e7fdfd997e3e", func := "watchword/watchwordlaw6.FletchSwaps", spec := "fletchSwaps", apart := false, narrowed := true }
def FletchSwapsUptoSaid : Prop := fletchSwapsUptoRow.holds Try.pinned (OpenSpec.upto fletchSwapsSpec)

/-- 'watchwordlaw6.FletchBehind', WHERE WHAT IT READS IS OF BULK AT MOST 1048576: true; the input reads as it did. -/
def fletchBehindUptoRow : OpenClaim := { program := "ytlkngkbhopbflaa", sum := "3ce07c2ed09a1c7bb10bc2b1b3069f628500a96287ac6dda1d43e7fdfd997e3e", func := "watchword/watchwordlaw6.FletchBehind", spec := "fletchBehind", apart := false, narrowed := true }
def FletchBehindUptoSaid : Prop := fletchBehindUptoRow.holds Try.pinned (OpenSpec.upto fletchBehindSpec)

end Rows
end Go.Proofs.Ytlkngkbhopbflaa
