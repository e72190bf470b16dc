/-
  No cell of these rows narrows 'for every input' (looked for: loops, veiled, ifaces, maps, wideKeys, modest, calm, conditions, laid).
  DERIVED. THE GIVEN ROWS OF THIS SEAT. 10 by the template 'for every input the law returns true; each argument reads behind the call as it read before'; 0 by the template 'total and deterministic' (their statements: YtjcmjfabadlbjaaTotals.lean).
  GIVEN WITH THE SEED: the statements are not yours to turn. If you find one false, say at which input.
  Laid BY PROGRAM, IN A SANDBOX (cutbox-rows.mjs): the forced cells as the released guide's own fill.sh prints them over the translation 98abdc9a767bea5c… (all of the seat's roots in one cut). By AI agents, Wed Nov 11 2026. No macro, syntax, notation, axiom, sorry.
-/
import Derived.Test.YtjcmjfabadlbjaaChecked
import GoSem.Claim
import GoSem.ClaimJoined
import GoSem.ClaimMapViews
import Derived.JoinedTies
import Derived.KernelRfl
namespace Go.Proofs.Ytjcmjfabadlbjaa
/- THE CELL 'sum', in the pinned program and in every row, IS THE sha256 OF THE DUMP (.gsa) THAT YtjcmjfabadlbjaaProg.lean LOADS. Nothing in Lean hashes anything: it is a label: what it is worth is what the hold of that sum in a sandbox is worth. -/
noncomputable def Try.pinned : Pinned := { name := "ytjcmjfabadlbjaa", sum := "98abdc9a767bea5c9db686f3260f67bee442803a8d796d68dd38fa9abe12353b", checked := Try.checked }
namespace Rows
def none {H : Type} : Left H := { results := [], args := [] }

/-- 'watchwordlaw3.Slots': WHATEVER THE INPUT: true; the input reads as it did. -/
def slotsSpec : ChangeSpec := { name := "slots", fn := fun _ => fun
  | [d1, d2, d3, d4] => { results := [.lit (.bool true)], args := [d1, d2, d3, d4] }
  | _ => none }
def slotsRow : OpenClaim := { program := "ytjcmjfabadlbjaa", sum := "98abdc9a767bea5c9db686f3260f67bee442803a8d796d68dd38fa9abe12353b", func := "watchword/watchwordlaw3.Slots", spec := "slots", apart := false }
def SlotsSaid : Prop := slotsRow.holds Try.pinned (OpenSpec.ofChange slotsSpec)

/-- ITS FALSE NEIGHBOUR: 'it returns false'. Refute it at one input. -/
def slotsWrong : ChangeSpec := { name := "slots", fn := fun _ => fun
  | [d1, d2, d3, d4] => { results := [.lit (.bool false)], args := [d1, d2, d3, d4] }
  | _ => none }
def SlotsWrongFalsely : Prop := slotsRow.holds Try.pinned (OpenSpec.ofChange slotsWrong)

/-- 'watchwordlaw3.SlotTorn': WHATEVER THE INPUT: true; the input reads as it did. -/
def slotTornSpec : ChangeSpec := { name := "slotTorn", fn := fun _ => fun
  | [d1, d2, d3] => { results := [.lit (.bool true)], args := [d1, d2, d3] }
  | _ => none }
def slotTornRow : OpenClaim := { program := "ytjcmjfabadlbjaa", sum := "98abdc9a767bea5c9db686f3260f67bee442803a8d796d68dd38fa9abe12353b", func := "watchword/watchwordlaw3.SlotTorn", spec := "slotTorn", apart := false }
def SlotTornSaid : Prop := slotTornRow.holds Try.pinned (OpenSpec.ofChange slotTornSpec)

/-- ITS FALSE NEIGHBOUR: 'it returns false'. Refute it at one input. -/
def slotTornWrong : ChangeSpec := { name := "slotTorn", fn := fun _ => fun
  | [d1, d2, d3] => { results := [.lit (.bool false)], args := [d1, d2, d3] }
  | _ => none }
def SlotTornWrongFalsely : Prop := slotTornRow.holds Try.pinned (OpenSpec.ofChange slotTornWrong)

/-- 'watchwordlaw3.SlotForms': WHATEVER THE INPUT: true; the input reads as it did. -/
def slotFormsSpec : ChangeSpec := { name := "slotForms", fn := fun _ => fun
  | [d1, d2, d3] => { results := [.lit (.bool true)], args := [d1, d2, d3] }
  | _ => none }
def slotFormsRow : OpenClaim := { program := "ytjcmjfabadlbjaa", sum := "98abdc9a767bea5c9db686f3260f67bee442803a8d796d68dd38fa9abe12353b", func := "watchword/watchwordlaw3.SlotForms", spec := "slotForms", apart := false }
def SlotFormsSaid : Prop := slotFormsRow.holds Try.pinned (OpenSpec.ofChange slotFormsSpec)

/-- ITS FALSE NEIGHBOUR: 'it returns false'. Refute it at one input. -/
def slotFormsWrong : ChangeSpec := { name := "slotForms", fn := fun _ => fun
  | [d1, d2, d3] => { results := [.lit (.bool false)], args := [d1, d2, d3] }
  | _ => none }
def SlotFormsWrongFalsely : Prop := slotFormsRow.holds Try.pinned (OpenSpec.ofChange slotFormsWrong)

/-- 'watchwordlaw3.SlotBack': WHATEVER THE INPUT: true; the input reads as it did. -/
def slotBackSpec : ChangeSpec := { name := "slotBack", fn := fun _ => fun
  | [d1, d2] => { results := [.lit (.bool true)], args := [d1, d2] }
  | _ => none }
def slotBackRow : OpenClaim := { program := "ytjcmjfabadlbjaa", sum := "98abdc9a767bea5c9db686f3260f67bee442803a8d796d68dd38fa9abe12353b", func := "watchword/watchwordlaw3.SlotBack", spec := "slotBack", apart := false }
def SlotBackSaid : Prop := slotBackRow.holds Try.pinned (OpenSpec.ofChange slotBackSpec)

/-- ITS FALSE NEIGHBOUR: 'it returns false'. Refute it at one input. -/
def slotBackWrong : ChangeSpec := { name := "slotBack", fn := fun _ => fun
  | [d1, d2] => { results := [.lit (.bool false)], args := [d1, d2] }
  | _ => none }
def SlotBackWrongFalsely : Prop := slotBackRow.holds Try.pinned (OpenSpec.ofChange slotBackWrong)

/-- 'watchwordlaw3.SlotRow': WHATEVER THE INPUT: true; the input reads as it did. -/
def slotRowSpec : ChangeSpec := { name := "slotRow", fn := fun _ => fun
  | [d1, d2, d3] => { results := [.lit (.bool true)], args := [d1, d2, d3] }
  | _ => none }
def slotRowRow : OpenClaim := { program := "ytjcmjfabadlbjaa", sum := "98abdc9a767bea5c9db686f3260f67bee442803a8d796d68dd38fa9abe12353b", func := "watchword/watchwordlaw3.SlotRow", spec := "slotRow", apart := false }
def SlotRowSaid : Prop := slotRowRow.holds Try.pinned (OpenSpec.ofChange slotRowSpec)

/-- ITS FALSE NEIGHBOUR: 'it returns false'. Refute it at one input. -/
def slotRowWrong : ChangeSpec := { name := "slotRow", fn := fun _ => fun
  | [d1, d2, d3] => { results := [.lit (.bool false)], args := [d1, d2, d3] }
  | _ => none }
def SlotRowWrongFalsely : Prop := slotRowRow.holds Try.pinned (OpenSpec.ofChange slotRowWrong)

/-- 'watchwordlaw4.Boots': WHATEVER THE INPUT: true; the input reads as it did. -/
def bootsSpec : ChangeSpec := { name := "boots", fn := fun _ => fun
  | [d1, d2] => { results := [.lit (.bool true)], args := [d1, d2] }
  | _ => none }
def bootsRow : OpenClaim := { program := "ytjcmjfabadlbjaa", sum := "98abdc9a767bea5c9db686f3260f67bee442803a8d796d68dd38fa9abe12353b", func := "watchword/watchwordlaw4.Boots", spec := "boots", inPlace := ["internal/abi.NoEscape", "internal/bytealg.MakeNoZero"], apart := false }
def BootsSaid : Prop := bootsRow.holds Try.pinned (OpenSpec.ofChange bootsSpec)

/-- ITS FALSE NEIGHBOUR: 'it returns false'. Refute it at one input. -/
def bootsWrong : ChangeSpec := { name := "boots", fn := fun _ => fun
  | [d1, d2] => { results := [.lit (.bool false)], args := [d1, d2] }
  | _ => none }
def BootsWrongFalsely : Prop := bootsRow.holds Try.pinned (OpenSpec.ofChange bootsWrong)

/-- 'watchwordlaw4.BootRises': WHATEVER THE INPUT: true; the input reads as it did. -/
def bootRisesSpec : ChangeSpec := { name := "bootRises", fn := fun _ => fun
  | [d] => { results := [.lit (.bool true)], args := [d] }
  | _ => none }
def bootRisesRow : OpenClaim := { program := "ytjcmjfabadlbjaa", sum := "98abdc9a767bea5c9db686f3260f67bee442803a8d796d68dd38fa9abe12353b", func := "watchword/watchwordlaw4.BootRises", spec := "bootRises", inPlace := ["internal/abi.NoEscape", "internal/bytealg.MakeNoZero"], apart := false }
def BootRisesSaid : Prop := bootRisesRow.holds Try.pinned (OpenSpec.ofChange bootRisesSpec)

/-- ITS FALSE NEIGHBOUR: 'it returns false'. Refute it at one input. -/
def bootRisesWrong : ChangeSpec := { name := "bootRises", fn := fun _ => fun
  | [d] => { results := [.lit (.bool false)], args := [d] }
  | _ => none }
def BootRisesWrongFalsely : Prop := bootRisesRow.holds Try.pinned (OpenSpec.ofChange bootRisesWrong)

/-- 'watchwordlaw4.BootForms': WHATEVER THE INPUT: true; the input reads as it did. -/
def bootFormsSpec : ChangeSpec := { name := "bootForms", fn := fun _ => fun
  | [d1, d2] => { results := [.lit (.bool true)], args := [d1, d2] }
  | _ => none }
def bootFormsRow : OpenClaim := { program := "ytjcmjfabadlbjaa", sum := "98abdc9a767bea5c9db686f3260f67bee442803a8d796d68dd38fa9abe12353b", func := "watchword/watchwordlaw4.BootForms", spec := "bootForms", inPlace := ["internal/abi.NoEscape", "internal/bytealg.MakeNoZero"], apart := false }
def BootFormsSaid : Prop := bootFormsRow.holds Try.pinned (OpenSpec.ofChange bootFormsSpec)

/-- ITS FALSE NEIGHBOUR: 'it returns false'. Refute it at one input. -/
def bootFormsWrong : ChangeSpec := { name := "bootForms", fn := fun _ => fun
  | [d1, d2] => { results := [.lit (.bool false)], args := [d1, d2] }
  | _ => none }
def BootFormsWrongFalsely : Prop := bootFormsRow.holds Try.pinned (OpenSpec.ofChange bootFormsWrong)

/-- 'watchwordlaw4.BootSlots': WHATEVER THE INPUT: true; the input reads as it did. -/
def bootSlotsSpec : ChangeSpec := { name := "bootSlots", fn := fun _ => fun
  | [d1, d2] => { results := [.lit (.bool true)], args := [d1, d2] }
  | _ => none }
def bootSlotsRow : OpenClaim := { program := "ytjcmjfabadlbjaa", sum := "98abdc9a767bea5c9db686f3260f67bee442803a8d796d68dd38fa9abe12353b", func := "watchword/watchwordlaw4.BootSlots", spec := "bootSlots", inPlace := ["internal/abi.NoEscape", "internal/bytealg.MakeNoZero"], apart := false }
def BootSlotsSaid : Prop := bootSlotsRow.holds Try.pinned (OpenSpec.ofChange bootSlotsSpec)

/-- ITS FALSE NEIGHBOUR: 'it returns false'. Refute it at one input. -/
def bootSlotsWrong : ChangeSpec := { name := "bootSlots", fn := fun _ => fun
  | [d1, d2] => { results := [.lit (.bool false)], args := [d1, d2] }
  | _ => none }
def BootSlotsWrongFalsely : Prop := bootSlotsRow.holds Try.pinned (OpenSpec.ofChange bootSlotsWrong)

/-- 'watchwordlaw4.BootTornRow': WHATEVER THE INPUT: true; the input reads as it did. -/
def bootTornRowSpec : ChangeSpec := { name := "bootTornRow", fn := fun _ => fun
  | [d1, d2] => { results := [.lit (.bool true)], args := [d1, d2] }
  | _ => none }
def bootTornRowRow : OpenClaim := { program := "ytjcmjfabadlbjaa", sum := "98abdc9a767bea5c9db686f3260f67bee442803a8d796d68dd38fa9abe12353b", func := "watchword/watchwordlaw4.BootTornRow", spec := "bootTornRow", inPlace := ["internal/abi.NoEscape", "internal/bytealg.MakeNoZero"], apart := false }
def BootTornRowSaid : Prop := bootTornRowRow.holds Try.pinned (OpenSpec.ofChange bootTornRowSpec)

/-- ITS FALSE NEIGHBOUR: 'it returns false'. Refute it at one input. -/
def bootTornRowWrong : ChangeSpec := { name := "bootTornRow", fn := fun _ => fun
  | [d1, d2] => { results := [.lit (.bool false)], args := [d1, d2] }
  | _ => none }
def BootTornRowWrongFalsely : Prop := bootTornRowRow.holds Try.pinned (OpenSpec.ofChange bootTornRowWrong)

/- THE SECOND FORM. 'bulk': how many values and letters a reading holds, each counted each time it is reached (what is shared counts as often as it is met; a slice's spare places count too). A statement '..UptoSaid' is the law's where the arguments, and the package variables that the reading takes, are together of bulk at most 1048576: NARROWER than '..Said'. Prove '..Said' where nothing that the law and all that it calls make is longer than what came in: it says more and counts as full. Else prove '..UptoSaid'. A law counts once. -/
mutual
def uptoBulk {H : Type} : DataW H → Nat
  | .lit (.string bytes) => bytes.length + 1
  | .lit _ => 1
  | .nil => 1
  | .ptr d => uptoBulk d + 1
  | .slice elems spare => uptoBulkAll elems + uptoBulkAll spare + 1
  | .agg parts => uptoBulkAll parts + 1
  | .iface _ d => uptoBulk d + 1
  | .map entries => uptoBulkEntries entries + 1
  | .held _ => 1
def uptoBulkAll {H : Type} : List (DataW H) → Nat
  | [] => 0
  | d :: r => uptoBulk d + uptoBulkAll r
def uptoBulkEntries {H : Type} : List (Lit × DataW H) → Nat
  | [] => 0
  | x :: r => uptoBulkEntry x + uptoBulkEntries r
def uptoBulkEntry {H : Type} : Lit × DataW H → Nat
  | (.string bytes, d) => bytes.length + uptoBulk d + 1
  | (_, d) => uptoBulk d + 1
 end
def uptoSmall : (H : Type) → List (DataW H) → Bool := fun _ ds => decide (uptoBulkAll ds ≤ 1048576)
def OpenSpec.upto (s : _root_.Go.ChangeSpec) : _root_.Go.OpenSpec := { _root_.Go.OpenSpec.ofChange s with cond := some uptoSmall }

/-- 'watchwordlaw3.Slots', WHERE WHAT IT READS IS OF BULK AT MOST 1048576: true; the input reads as it did. -/
def slotsUptoRow : OpenClaim := { program := "ytjcmjfabadlbjaa", sum := "98abdc9a767bea5c9db686f3260f67bee442803a8d796d68dd38fa9abe12353b", func := "watchword/watchwordlaw3.Slots", spec := "slots", apart := false, narrowed := true }
def SlotsUptoSaid : Prop := slotsUptoRow.holds Try.pinned (OpenSpec.upto slotsSpec)

/-- 'watchwordlaw3.SlotTorn', WHERE WHAT IT READS IS OF BULK AT MOST 1048576: true; the input reads as it did. -/
def slotTornUptoRow : OpenClaim := { program := "ytjcmjfabadlbjaa", sum := "98abdc9a767bea5c9db686f3260f67bee442803a8d796d68dd38fa9abe12353b", func := "watchword/watchwordlaw3.SlotTorn", spec := "slotTorn", apart := false, narrowed := true }
def SlotTornUptoSaid : Prop := slotTornUptoRow.holds Try.pinned (OpenSpec.upto slotTornSpec)

/-- 'watchwordlaw3.SlotForms', WHERE WHAT IT READS IS OF BULK AT MOST 1048576: true; the input reads as it did. -/
def slotFormsUptoRow : OpenClaim := { program := "ytjcmjfabadlbjaa", sum := "98abdc9a767bea5c9db686f3260f67bee442803a8d796d68dd38fa9abe12353b", func := "watchword/watchwordlaw3.SlotForms", spec := "slotForms", apart := false, narrowed := true }
def SlotFormsUptoSaid : Prop := slotFormsUptoRow.holds Try.pinned (OpenSpec.upto slotFormsSpec)

/-- 'watchwordlaw3.SlotBack', WHERE WHAT IT READS IS OF BULK AT MOST 1048576: true; the input reads as it did. -/
def slotBackUptoRow : OpenClaim := { program := "ytjcmjfabadlbjaa", sum := "98abdc9a767bea5c9db686f3260f67bee442803a8d796d68dd38fa9abe12353b", func := "watchword/watchwordlaw3.SlotBack", spec := "slotBack", apart := false, narrowed := true }
def SlotBackUptoSaid : Prop := slotBackUptoRow.holds Try.pinned (OpenSpec.upto slotBackSpec)

/-- 'watchwordlaw3.SlotRow', WHERE WHAT IT READS IS OF BULK AT MOST 1048576: true; the input reads as it did. -/
def slotRowUptoRow : OpenClaim := { program := "ytjcmjfabadlbjaa", sum := "98abdc9a767bea5c9db686f3260f67bee442803a8d796d68dd38fa9abe12353b", func := "watchword/watchwordlaw3.SlotRow", spec := "slotRow", apart := false, narrowed := true }
def SlotRowUptoSaid : Prop := slotRowUptoRow.holds Try.pinned (OpenSpec.upto slotRowSpec)

/-- 'watchwordlaw4.Boots', WHERE WHAT IT READS IS OF BULK AT MOST 1048576: true; the input reads as it did. -/
def bootsUptoRow : OpenClaim := { program := "ytjcmjfabadlbjaa", sum := "98abdc9a767bea5c9db686f3260f67bee442803a8d796d68dd38fa9abe12353b", func := "watchword/watchwordlaw4.Boots", spec := "boots", inPlace := ["internal/abi.NoEscape", "internal/bytealg.MakeNoZero"], apart := false, narrowed := true }
def BootsUptoSaid : Prop := bootsUptoRow.holds Try.pinned (OpenSpec.upto bootsSpec)

/-- 'watchwordlaw4.BootRises', WHERE WHAT IT READS IS OF BULK AT MOST 1048576: true; the input reads as it did. -/
def bootRisesUptoRow : OpenClaim := { program := "ytjcmjfabadlbjaa", sum := "98abdc9a767bea5c9db686f3260f67bee442803a8d796d68dd38fa9abe12353b", func := "watchword/watchwordlaw4.BootRises", spec := "bootRises", inPlace := ["internal/abi.NoEscape", "internal/bytealg.MakeNoZero"], apart := false, narrowed := true }
def BootRisesUptoSaid : Prop := bootRisesUptoRow.holds Try.pinned (OpenSpec.upto bootRisesSpec)

/-- 'watchwordlaw4.BootForms', WHERE WHAT IT READS IS OF BULK AT MOST 1048576: true; the input reads as it did. -/
def bootFormsUptoRow : OpenClaim := { program := "ytjcmjfabadlbjaa", sum := "98abdc9a767bea5c9db686f3260f67bee442803a8d796d68dd38fa9abe12353b", func := "watchword/watchwordlaw4.BootForms", spec := "bootForms", inPlace := ["internal/abi.NoEscape", "internal/bytealg.MakeNoZero"], apart := false, narrowed := true }
def BootFormsUptoSaid : Prop := bootFormsUptoRow.holds Try.pinned (OpenSpec.upto bootFormsSpec)

/-- 'watchwordlaw4.BootSlots', WHERE WHAT IT READS IS OF BULK AT MOST 1048576: true; the input reads as it did. -/
def bootSlotsUptoRow : OpenClaim := { program := "ytjcmjfabadlbjaa", sum := "98abdc9a767bea5c9db686f3260f67bee442803a8d796d68dd38fa9abe12353b", func := "watchword/watchwordlaw4.BootSlots", spec := "bootSlots", inPlace := ["internal/abi.NoEscape", "internal/bytealg.MakeNoZero"], apart := false, narrowed := true }
def BootSlotsUptoSaid : Prop := bootSlotsUptoRow.holds Try.pinned (OpenSpec.upto bootSlotsSpec)

/-- 'watchwordlaw4.BootTornRow', WHERE WHAT IT READS IS OF BULK AT MOST 1048576: true; the input reads as it did. -/
def bootTornRowUptoRow : OpenClaim := { program := "ytjcmjfabadlbjaa", sum := "98abdc9a767bea5c9db686f3260f67bee442803a8d796d68dd38fa9abe12353b", func := "watchword/watchwordlaw4.BootTornRow", spec := "bootTornRow", inPlace := ["internal/abi.NoEscape", "internal/bytealg.MakeNoZero"], apart := false, narrowed := true }
def BootTornRowUptoSaid : Prop := bootTornRowUptoRow.holds Try.pinned (OpenSpec.upto bootTornRowSpec)

end Rows
end Go.Proofs.Ytjcmjfabadlbjaa
