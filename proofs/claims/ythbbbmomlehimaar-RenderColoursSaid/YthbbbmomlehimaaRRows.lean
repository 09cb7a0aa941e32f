/-
  No cell of these rows narrows 'for every input' (looked for: loops, veiled, ifaces, maps, wideKeys, modest, calm, conditions, laid).
  DERIVED. THE GIVEN ROWS OF THIS SEAT. 10 by the template 'for every input the law returns true; each argument reads behind the call as it read before'; 0 by the template 'total and deterministic' (their statements: YthbbbmomlehimaaRTotals.lean).
  GIVEN WITH THE SEED: the statements are not yours to turn. If you find one false, say at which input.
  Laid BY PROGRAM, IN A SANDBOX (cutbox-rows.mjs): the forced cells as the released guide's own fill.sh prints them over the translation 933383036b0de0d0… (all of the seat's roots in one cut). By AI agents, Wed Nov 11 2026. No macro, syntax, notation, axiom, sorry.
-/
import Derived.Test.YthbbbmomlehimaaRChecked
import GoSem.Claim
import GoSem.ClaimJoined
import GoSem.ClaimMapViews
import Derived.JoinedTies
import Derived.KernelRfl
namespace Go.Proofs.YthbbbmomlehimaaR
/- THE CELL 'sum', in the pinned program and in every row, IS THE sha256 OF THE DUMP (.gsa) THAT YthbbbmomlehimaaRProg.lean LOADS. Nothing in Lean hashes anything: it is a label: what it is worth is what the hold of that sum in a sandbox is worth. -/
noncomputable def Try.pinned : Pinned := { name := "ythbbbmomlehimaar", sum := "933383036b0de0d062cd28334683d26811b520eb95fab1106587919195b98f22", checked := Try.checked }
namespace Rows
def none {H : Type} : Left H := { results := [], args := [] }

/-- 'pendulumlaw25.LinkOrder': WHATEVER THE INPUT: true; the input reads as it did. -/
def linkOrderSpec : ChangeSpec := { name := "linkOrder", fn := fun _ => fun
  | [d1, d2, d3] => { results := [.lit (.bool true)], args := [d1, d2, d3] }
  | _ => none }
def linkOrderRow : OpenClaim := { program := "ythbbbmomlehimaar", sum := "933383036b0de0d062cd28334683d26811b520eb95fab1106587919195b98f22", func := "pendulum/pendulumlaw25.LinkOrder", spec := "linkOrder", unfollowed := true, recurses := true, apart := false }
def LinkOrderSaid : Prop := linkOrderRow.holds Try.pinned (OpenSpec.ofChange linkOrderSpec)

/-- ITS FALSE NEIGHBOUR: 'it returns false'. Refute it at one input. -/
def linkOrderWrong : ChangeSpec := { name := "linkOrder", fn := fun _ => fun
  | [d1, d2, d3] => { results := [.lit (.bool false)], args := [d1, d2, d3] }
  | _ => none }
def LinkOrderWrongFalsely : Prop := linkOrderRow.holds Try.pinned (OpenSpec.ofChange linkOrderWrong)

/-- 'pendulumlaw16.ContendRows': WHATEVER THE INPUT: true; the input reads as it did. -/
def contendRowsSpec : ChangeSpec := { name := "contendRows", fn := fun _ => fun
  | [d1, d2, d3, d4, d5] => { results := [.lit (.bool true)], args := [d1, d2, d3, d4, d5] }
  | _ => none }
def contendRowsRow : OpenClaim := { program := "ythbbbmomlehimaar", sum := "933383036b0de0d062cd28334683d26811b520eb95fab1106587919195b98f22", func := "pendulum/pendulumlaw16.ContendRows", spec := "contendRows", unfollowed := true, recurses := true, apart := false }
def ContendRowsSaid : Prop := contendRowsRow.holds Try.pinned (OpenSpec.ofChange contendRowsSpec)

/-- ITS FALSE NEIGHBOUR: 'it returns false'. Refute it at one input. -/
def contendRowsWrong : ChangeSpec := { name := "contendRows", fn := fun _ => fun
  | [d1, d2, d3, d4, d5] => { results := [.lit (.bool false)], args := [d1, d2, d3, d4, d5] }
  | _ => none }
def ContendRowsWrongFalsely : Prop := contendRowsRow.holds Try.pinned (OpenSpec.ofChange contendRowsWrong)

/-- 'pendulumlaw04.MergeBrackets': WHATEVER THE INPUT: true; the input reads as it did. -/
def mergeBracketsSpec : ChangeSpec := { name := "mergeBrackets", fn := fun _ => fun
  | [d1, d2, d3] => { results := [.lit (.bool true)], args := [d1, d2, d3] }
  | _ => none }
def mergeBracketsRow : OpenClaim := { program := "ythbbbmomlehimaar", sum := "933383036b0de0d062cd28334683d26811b520eb95fab1106587919195b98f22", func := "pendulum/pendulumlaw04.MergeBrackets", spec := "mergeBrackets", unfollowed := true, recurses := true, apart := false }
def MergeBracketsSaid : Prop := mergeBracketsRow.holds Try.pinned (OpenSpec.ofChange mergeBracketsSpec)

/-- ITS FALSE NEIGHBOUR: 'it returns false'. Refute it at one input. -/
def mergeBracketsWrong : ChangeSpec := { name := "mergeBrackets", fn := fun _ => fun
  | [d1, d2, d3] => { results := [.lit (.bool false)], args := [d1, d2, d3] }
  | _ => none }
def MergeBracketsWrongFalsely : Prop := mergeBracketsRow.holds Try.pinned (OpenSpec.ofChange mergeBracketsWrong)

/-- 'pendulumlaw02.TstateBack': WHATEVER THE INPUT: true; the input reads as it did. -/
def tstateBackSpec : ChangeSpec := { name := "tstateBack", fn := fun _ => fun
  | [d1, d2, d3] => { results := [.lit (.bool true)], args := [d1, d2, d3] }
  | _ => none }
def tstateBackRow : OpenClaim := { program := "ythbbbmomlehimaar", sum := "933383036b0de0d062cd28334683d26811b520eb95fab1106587919195b98f22", func := "pendulum/pendulumlaw02.TstateBack", spec := "tstateBack", unfollowed := true, recurses := true, apart := false }
def TstateBackSaid : Prop := tstateBackRow.holds Try.pinned (OpenSpec.ofChange tstateBackSpec)

/-- ITS FALSE NEIGHBOUR: 'it returns false'. Refute it at one input. -/
def tstateBackWrong : ChangeSpec := { name := "tstateBack", fn := fun _ => fun
  | [d1, d2, d3] => { results := [.lit (.bool false)], args := [d1, d2, d3] }
  | _ => none }
def TstateBackWrongFalsely : Prop := tstateBackRow.holds Try.pinned (OpenSpec.ofChange tstateBackWrong)

/-- 'pendulumlaw30.RenderColours': WHATEVER THE INPUT: true; the input reads as it did. -/
def renderColoursSpec : ChangeSpec := { name := "renderColours", fn := fun _ => fun
  | [d1, d2, d3, d4] => { results := [.lit (.bool true)], args := [d1, d2, d3, d4] }
  | _ => none }
def renderColoursRow : OpenClaim := { program := "ythbbbmomlehimaar", sum := "933383036b0de0d062cd28334683d26811b520eb95fab1106587919195b98f22", func := "pendulum/pendulumlaw30.RenderColours", spec := "renderColours", unfollowed := true, recurses := true, apart := false }
def RenderColoursSaid : Prop := renderColoursRow.holds Try.pinned (OpenSpec.ofChange renderColoursSpec)

/-- ITS FALSE NEIGHBOUR: 'it returns false'. Refute it at one input. -/
def renderColoursWrong : ChangeSpec := { name := "renderColours", fn := fun _ => fun
  | [d1, d2, d3, d4] => { results := [.lit (.bool false)], args := [d1, d2, d3, d4] }
  | _ => none }
def RenderColoursWrongFalsely : Prop := renderColoursRow.holds Try.pinned (OpenSpec.ofChange renderColoursWrong)

/-- 'pendulumlaw02.TstateCalls': WHATEVER THE INPUT: true; the input reads as it did. -/
def tstateCallsSpec : ChangeSpec := { name := "tstateCalls", fn := fun _ => fun
  | [d1, d2, d3, d4, d5] => { results := [.lit (.bool true)], args := [d1, d2, d3, d4, d5] }
  | _ => none }
def tstateCallsRow : OpenClaim := { program := "ythbbbmomlehimaar", sum := "933383036b0de0d062cd28334683d26811b520eb95fab1106587919195b98f22", func := "pendulum/pendulumlaw02.TstateCalls", spec := "tstateCalls", unfollowed := true, recurses := true, apart := false }
def TstateCallsSaid : Prop := tstateCallsRow.holds Try.pinned (OpenSpec.ofChange tstateCallsSpec)

/-- ITS FALSE NEIGHBOUR: 'it returns false'. Refute it at one input. -/
def tstateCallsWrong : ChangeSpec := { name := "tstateCalls", fn := fun _ => fun
  | [d1, d2, d3, d4, d5] => { results := [.lit (.bool false)], args := [d1, d2, d3, d4, d5] }
  | _ => none }
def TstateCallsWrongFalsely : Prop := tstateCallsRow.holds Try.pinned (OpenSpec.ofChange tstateCallsWrong)

/-- 'pendulumlaw04.MergeNames': WHATEVER THE INPUT: true; the input reads as it did. -/
def mergeNamesSpec : ChangeSpec := { name := "mergeNames", fn := fun _ => fun
  | [] => { results := [.lit (.bool true)], args := [] }
  | _ => none }
def mergeNamesRow : OpenClaim := { program := "ythbbbmomlehimaar", sum := "933383036b0de0d062cd28334683d26811b520eb95fab1106587919195b98f22", func := "pendulum/pendulumlaw04.MergeNames", spec := "mergeNames", unfollowed := true, recurses := true, apart := false }
def MergeNamesSaid : Prop := mergeNamesRow.holds Try.pinned (OpenSpec.ofChange mergeNamesSpec)

/-- ITS FALSE NEIGHBOUR: 'it returns false'. Refute it at one input. -/
def mergeNamesWrong : ChangeSpec := { name := "mergeNames", fn := fun _ => fun
  | [] => { results := [.lit (.bool false)], args := [] }
  | _ => none }
def MergeNamesWrongFalsely : Prop := mergeNamesRow.holds Try.pinned (OpenSpec.ofChange mergeNamesWrong)

/-- 'pendulumlaw04.MergeCounts': WHATEVER THE INPUT: true; the input reads as it did. -/
def mergeCountsSpec : ChangeSpec := { name := "mergeCounts", fn := fun _ => fun
  | [d] => { results := [.lit (.bool true)], args := [d] }
  | _ => none }
def mergeCountsRow : OpenClaim := { program := "ythbbbmomlehimaar", sum := "933383036b0de0d062cd28334683d26811b520eb95fab1106587919195b98f22", func := "pendulum/pendulumlaw04.MergeCounts", spec := "mergeCounts", unfollowed := true, recurses := true, apart := false }
def MergeCountsSaid : Prop := mergeCountsRow.holds Try.pinned (OpenSpec.ofChange mergeCountsSpec)

/-- ITS FALSE NEIGHBOUR: 'it returns false'. Refute it at one input. -/
def mergeCountsWrong : ChangeSpec := { name := "mergeCounts", fn := fun _ => fun
  | [d] => { results := [.lit (.bool false)], args := [d] }
  | _ => none }
def MergeCountsWrongFalsely : Prop := mergeCountsRow.holds Try.pinned (OpenSpec.ofChange mergeCountsWrong)

/-- 'pendulumlaw04.MergeCuts': WHATEVER THE INPUT: true; the input reads as it did. -/
def mergeCutsSpec : ChangeSpec := { name := "mergeCuts", fn := fun _ => fun
  | [d1, d2, d3] => { results := [.lit (.bool true)], args := [d1, d2, d3] }
  | _ => none }
def mergeCutsRow : OpenClaim := { program := "ythbbbmomlehimaar", sum := "933383036b0de0d062cd28334683d26811b520eb95fab1106587919195b98f22", func := "pendulum/pendulumlaw04.MergeCuts", spec := "mergeCuts", unfollowed := true, recurses := true, apart := false }
def MergeCutsSaid : Prop := mergeCutsRow.holds Try.pinned (OpenSpec.ofChange mergeCutsSpec)

/-- ITS FALSE NEIGHBOUR: 'it returns false'. Refute it at one input. -/
def mergeCutsWrong : ChangeSpec := { name := "mergeCuts", fn := fun _ => fun
  | [d1, d2, d3] => { results := [.lit (.bool false)], args := [d1, d2, d3] }
  | _ => none }
def MergeCutsWrongFalsely : Prop := mergeCutsRow.holds Try.pinned (OpenSpec.ofChange mergeCutsWrong)

/-- 'pendulumlaw13.BankKeeps': WHATEVER THE INPUT: true; the input reads as it did. -/
def bankKeepsSpec : ChangeSpec := { name := "bankKeeps", fn := fun _ => fun
  | [d1, d2] => { results := [.lit (.bool true)], args := [d1, d2] }
  | _ => none }
def bankKeepsRow : OpenClaim := { program := "ythbbbmomlehimaar", sum := "933383036b0de0d062cd28334683d26811b520eb95fab1106587919195b98f22", func := "pendulum/pendulumlaw13.BankKeeps", spec := "bankKeeps", apart := false }
def BankKeepsSaid : Prop := bankKeepsRow.holds Try.pinned (OpenSpec.ofChange bankKeepsSpec)

/-- ITS FALSE NEIGHBOUR: 'it returns false'. Refute it at one input. -/
def bankKeepsWrong : ChangeSpec := { name := "bankKeeps", fn := fun _ => fun
  | [d1, d2] => { results := [.lit (.bool false)], args := [d1, d2] }
  | _ => none }
def BankKeepsWrongFalsely : Prop := bankKeepsRow.holds Try.pinned (OpenSpec.ofChange bankKeepsWrong)

/- THE SECOND FORM. 'bulk': how many values and letters a reading holds, each counted each time it is reached (what is shared counts as often as it is met; a slice's spare places count too). A statement '..UptoSaid' is the law's where the arguments, and the package variables that the reading takes, are together of bulk at most 1048576: NARROWER than '..Said'. Prove '..Said' where nothing that the law and all that it calls make is longer than what came in: it says more and counts as full. Else prove '..UptoSaid'. A law counts once. -/
mutual
def uptoBulk {H : Type} : DataW H → Nat
  | .lit (.string bytes) => bytes.length + 1
  | .lit _ => 1
  | .nil => 1
  | .ptr d => uptoBulk d + 1
  | .slice elems spare => uptoBulkAll elems + uptoBulkAll spare + 1
  | .agg parts => uptoBulkAll parts + 1
  | .iface _ d => uptoBulk d + 1
  | .map entries => uptoBulkEntries entries + 1
  | .held _ => 1
def uptoBulkAll {H : Type} : List (DataW H) → Nat
  | [] => 0
  | d :: r => uptoBulk d + uptoBulkAll r
def uptoBulkEntries {H : Type} : List (Lit × DataW H) → Nat
  | [] => 0
  | x :: r => uptoBulkEntry x + uptoBulkEntries r
def uptoBulkEntry {H : Type} : Lit × DataW H → Nat
  | (.string bytes, d) => bytes.length + uptoBulk d + 1
  | (_, d) => uptoBulk d + 1
 end
def uptoSmall : (H : Type) → List (DataW H) → Bool := fun _ ds => decide (uptoBulkAll ds ≤ 1048576)
def OpenSpec.upto (s : _root_.Go.ChangeSpec) : _root_.Go.OpenSpec := { _root_.Go.OpenSpec.ofChange s with cond := some uptoSmall }

/-- 'pendulumlaw25.LinkOrder', WHERE WHAT IT READS IS OF BULK AT MOST 1048576: true; the input reads as it did. -/
def linkOrderUptoRow : OpenClaim := { program := "ythbbbmomlehimaar", sum := "933383036b0de0d062cd28334683d26811b520eb95fab1106587919195b98f22", func := "pendulum/pendulumlaw25.LinkOrder", spec := "linkOrder", unfollowed := true, recurses := true, apart := false, narrowed := true }
def LinkOrderUptoSaid : Prop := linkOrderUptoRow.holds Try.pinned (OpenSpec.upto linkOrderSpec)

/-- 'pendulumlaw16.ContendRows', WHERE WHAT IT READS IS OF BULK AT MOST 1048576: true; the input reads as it did. -/
def contendRowsUptoRow : OpenClaim := { program := "ythbbbmomlehimaar", sum := "933383036b0de0d062cd28334683d26811b520eb95fab1106587919195b98f22", func := "pendulum/pendulumlaw16.ContendRows", spec := "contendRows", unfollowed := true, recurses := true, apart := false, narrowed := true }
def ContendRowsUptoSaid : Prop := contendRowsUptoRow.holds Try.pinned (OpenSpec.upto contendRowsSpec)

/-- 'pendulumlaw04.MergeBrackets', WHERE WHAT IT READS IS OF BULK AT MOST 1048576: true; the input reads as it did. -/
def mergeBracketsUptoRow : OpenClaim := { program := "ythbbbmomlehimaar", sum := "933383036b0de0d062cd28334683d26811b520eb95fab1106587919195b98f22", func := "pendulum/pendulumlaw04.MergeBrackets", spec := "mergeBrackets", unfollowed := true, recurses := true, apart := false, narrowed := true }
def MergeBracketsUptoSaid : Prop := mergeBracketsUptoRow.holds Try.pinned (OpenSpec.upto mergeBracketsSpec)

/-- 'pendulumlaw02.TstateBack', WHERE WHAT IT READS IS OF BULK AT MOST 1048576: true; the input reads as it did. -/
def tstateBackUptoRow : OpenClaim := { program := "ythbbbmomlehimaar", sum := "933383036b0de0d062cd28334683d26811b520eb95fab1106587919195b98f22", func := "pendulum/pendulumlaw02.TstateBack", spec := "tstateBack", unfollowed := true, recurses := true, apart := false, narrowed := true }
def TstateBackUptoSaid : Prop := tstateBackUptoRow.holds Try.pinned (OpenSpec.upto tstateBackSpec)

/-- 'pendulumlaw30.RenderColours', WHERE WHAT IT READS IS OF BULK AT MOST 1048576: true; the input reads as it did. -/
def renderColoursUptoRow : OpenClaim := { program := "ythbbbmomlehimaar", sum := "933383036b0de0d062cd28334683d26811b520eb95fab1106587919195b98f22", func := "pendulum/pendulumlaw30.RenderColours", spec := "renderColours", unfollowed := true, recurses := true, apart := false, narrowed := true }
def RenderColoursUptoSaid : Prop := renderColoursUptoRow.holds Try.pinned (OpenSpec.upto renderColoursSpec)

/-- 'pendulumlaw02.TstateCalls', WHERE WHAT IT READS IS OF BULK AT MOST 1048576: true; the input reads as it did. -/
def tstateCallsUptoRow : OpenClaim := { program := "ythbbbmomlehimaar", sum := "933383036b0de0d062cd28334683d26811b520eb95fab1106587919195b98f22", func := "pendulum/pendulumlaw02.TstateCalls", spec := "tstateCalls", unfollowed := true, recurses := true, apart := false, narrowed := true }
def TstateCallsUptoSaid : Prop := tstateCallsUptoRow.holds Try.pinned (OpenSpec.upto tstateCallsSpec)

/-- 'pendulumlaw04.MergeNames', WHERE WHAT IT READS IS OF BULK AT MOST 1048576: true; the input reads as it did. -/
def mergeNamesUptoRow : OpenClaim := { program := "ythbbbmomlehimaar", sum := "933383036b0de0d062cd28334683d26811b520eb95fab1106587919195b98f22", func := "pendulum/pendulumlaw04.MergeNames", spec := "mergeNames", unfollowed := true, recurses := true, apart := false, narrowed := true }
def MergeNamesUptoSaid : Prop := mergeNamesUptoRow.holds Try.pinned (OpenSpec.upto mergeNamesSpec)

/-- 'pendulumlaw04.MergeCounts', WHERE WHAT IT READS IS OF BULK AT MOST 1048576: true; the input reads as it did. -/
def mergeCountsUptoRow : OpenClaim := { program := "ythbbbmomlehimaar", sum := "933383036b0de0d062cd28334683d26811b520eb95fab1106587919195b98f22", func := "pendulum/pendulumlaw04.MergeCounts", spec := "mergeCounts", unfollowed := true, recurses := true, apart := false, narrowed := true }
def MergeCountsUptoSaid : Prop := mergeCountsUptoRow.holds Try.pinned (OpenSpec.upto mergeCountsSpec)

/-- 'pendulumlaw04.MergeCuts', WHERE WHAT IT READS IS OF BULK AT MOST 1048576: true; the input reads as it did. -/
def mergeCutsUptoRow : OpenClaim := { program := "ythbbbmomlehimaar", sum := "933383036b0de0d062cd28334683d26811b520eb95fab1106587919195b98f22", func := "pendulum/pendulumlaw04.MergeCuts", spec := "mergeCuts", unfollowed := true, recurses := true, apart := false, narrowed := true }
def MergeCutsUptoSaid : Prop := mergeCutsUptoRow.holds Try.pinned (OpenSpec.upto mergeCutsSpec)

/-- 'pendulumlaw13.BankKeeps', WHERE WHAT IT READS IS OF BULK AT MOST 1048576: true; the input reads as it did. -/
def bankKeepsUptoRow : OpenClaim := { program := "ythbbbmomlehimaar", sum := "933383036b0de0d062cd28334683d26811b520eb95fab1106587919195b98f22", func := "pendulum/pendulumlaw13.BankKeeps", spec := "bankKeeps", apart := false, narrowed := true }
def BankKeepsUptoSaid : Prop := bankKeepsUptoRow.holds Try.pinned (OpenSpec.upto bankKeepsSpec)

end Rows
end Go.Proofs.YthbbbmomlehimaaR
