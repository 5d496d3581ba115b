/-
  No cell of these rows narrows 'for every input' (looked for: loops, veiled, ifaces, maps, wideKeys, modest, calm, conditions, laid).
  DERIVED. THE GIVEN ROWS OF THIS SEAT. 6 by the template 'for every input the law returns true; each argument reads behind the call as it read before'; 0 by the template 'total and deterministic' (their statements: YtocfelaklhpdlaaTotals.lean).
  GIVEN WITH THE SEED: the statements are not yours to turn. If you find one false, say at which input.
  Laid BY PROGRAM, IN A SANDBOX (cutbox-rows.mjs): the forced cells as the released guide's own fill.sh prints them over the translation 4ad8976fc265dd42… (all of the seat's roots in one cut). By AI agents, Wed Nov 11 2026. No macro, syntax, notation, axiom, sorry.
-/
import Derived.Test.YtocfelaklhpdlaaChecked
import GoSem.Claim
import GoSem.ClaimJoined
import GoSem.ClaimMapViews
import Derived.JoinedTies
import Derived.KernelRfl
namespace Go.Proofs.Ytocfelaklhpdlaa
/- THE CELL 'sum', in the pinned program and in every row, IS THE sha256 OF THE DUMP (.gsa) THAT YtocfelaklhpdlaaProg.lean LOADS. Nothing in Lean hashes anything: it is a label: what it is worth is what the hold of that sum in a sandbox is worth. -/
noncomputable def Try.pinned : Pinned := { name := "ytocfelaklhpdlaa", sum := "4ad8976fc265dd42b74e67bec5467cdde725f86ac664b32fb8b2332fbec852b5", checked := Try.checked }
namespace Rows
def none {H : Type} : Left H := { results := [], args := [] }

/-- 'curtilagelaw01.LevelTexts': WHATEVER THE INPUT: true; the input reads as it did. -/
def levelTextsSpec : ChangeSpec := { name := "levelTexts", fn := fun _ => fun
  | [d1, d2] => { results := [.lit (.bool true)], args := [d1, d2] }
  | _ => none }
def levelTextsRow : OpenClaim := { program := "ytocfelaklhpdlaa", sum := "4ad8976fc265dd42b74e67bec5467cdde725f86ac664b32fb8b2332fbec852b5", func := "curtilage/curtilagelaw01.LevelTexts", spec := "levelTexts", apart := false }
def LevelTextsSaid : Prop := levelTextsRow.holds Try.pinned (OpenSpec.ofChange levelTextsSpec)

/-- ITS FALSE NEIGHBOUR: 'it returns false'. Refute it at one input. -/
def levelTextsWrong : ChangeSpec := { name := "levelTexts", fn := fun _ => fun
  | [d1, d2] => { results := [.lit (.bool false)], args := [d1, d2] }
  | _ => none }
def LevelTextsWrongFalsely : Prop := levelTextsRow.holds Try.pinned (OpenSpec.ofChange levelTextsWrong)

/-- 'curtilagelaw01.LevelOrder': WHATEVER THE INPUT: true; the input reads as it did. -/
def levelOrderSpec : ChangeSpec := { name := "levelOrder", fn := fun _ => fun
  | [d1, d2, d3] => { results := [.lit (.bool true)], args := [d1, d2, d3] }
  | _ => none }
def levelOrderRow : OpenClaim := { program := "ytocfelaklhpdlaa", sum := "4ad8976fc265dd42b74e67bec5467cdde725f86ac664b32fb8b2332fbec852b5", func := "curtilage/curtilagelaw01.LevelOrder", spec := "levelOrder", apart := false }
def LevelOrderSaid : Prop := levelOrderRow.holds Try.pinned (OpenSpec.ofChange levelOrderSpec)

/-- ITS FALSE NEIGHBOUR: 'it returns false'. Refute it at one input. -/
def levelOrderWrong : ChangeSpec := { name := "levelOrder", fn := fun _ => fun
  | [d1, d2, d3] => { results := [.lit (.bool false)], args := [d1, d2, d3] }
  | _ => none }
def LevelOrderWrongFalsely : Prop := levelOrderRow.holds Try.pinned (OpenSpec.ofChange levelOrderWrong)

/-- 'curtilagelaw01.LevelRaises': WHATEVER THE INPUT: true; the input reads as it did. -/
def levelRaisesSpec : ChangeSpec := { name := "levelRaises", fn := fun _ => fun
  | [d1, d2] => { results := [.lit (.bool true)], args := [d1, d2] }
  | _ => none }
def levelRaisesRow : OpenClaim := { program := "ytocfelaklhpdlaa", sum := "4ad8976fc265dd42b74e67bec5467cdde725f86ac664b32fb8b2332fbec852b5", func := "curtilage/curtilagelaw01.LevelRaises", spec := "levelRaises", apart := false }
def LevelRaisesSaid : Prop := levelRaisesRow.holds Try.pinned (OpenSpec.ofChange levelRaisesSpec)

/-- ITS FALSE NEIGHBOUR: 'it returns false'. Refute it at one input. -/
def levelRaisesWrong : ChangeSpec := { name := "levelRaises", fn := fun _ => fun
  | [d1, d2] => { results := [.lit (.bool false)], args := [d1, d2] }
  | _ => none }
def LevelRaisesWrongFalsely : Prop := levelRaisesRow.holds Try.pinned (OpenSpec.ofChange levelRaisesWrong)

/-- 'curtilagelaw01.LevelSwaps': WHATEVER THE INPUT: true; the input reads as it did. -/
def levelSwapsSpec : ChangeSpec := { name := "levelSwaps", fn := fun _ => fun
  | [d1, d2, d3] => { results := [.lit (.bool true)], args := [d1, d2, d3] }
  | _ => none }
def levelSwapsRow : OpenClaim := { program := "ytocfelaklhpdlaa", sum := "4ad8976fc265dd42b74e67bec5467cdde725f86ac664b32fb8b2332fbec852b5", func := "curtilage/curtilagelaw01.LevelSwaps", spec := "levelSwaps", apart := false }
def LevelSwapsSaid : Prop := levelSwapsRow.holds Try.pinned (OpenSpec.ofChange levelSwapsSpec)

/-- ITS FALSE NEIGHBOUR: 'it returns false'. Refute it at one input. -/
def levelSwapsWrong : ChangeSpec := { name := "levelSwaps", fn := fun _ => fun
  | [d1, d2, d3] => { results := [.lit (.bool false)], args := [d1, d2, d3] }
  | _ => none }
def LevelSwapsWrongFalsely : Prop := levelSwapsRow.holds Try.pinned (OpenSpec.ofChange levelSwapsWrong)

/-- 'curtilagelaw01.LevelSigns': WHATEVER THE INPUT: true; the input reads as it did. -/
def levelSignsSpec : ChangeSpec := { name := "levelSigns", fn := fun _ => fun
  | [d1, d2] => { results := [.lit (.bool true)], args := [d1, d2] }
  | _ => none }
def levelSignsRow : OpenClaim := { program := "ytocfelaklhpdlaa", sum := "4ad8976fc265dd42b74e67bec5467cdde725f86ac664b32fb8b2332fbec852b5", func := "curtilage/curtilagelaw01.LevelSigns", spec := "levelSigns", apart := false }
def LevelSignsSaid : Prop := levelSignsRow.holds Try.pinned (OpenSpec.ofChange levelSignsSpec)

/-- ITS FALSE NEIGHBOUR: 'it returns false'. Refute it at one input. -/
def levelSignsWrong : ChangeSpec := { name := "levelSigns", fn := fun _ => fun
  | [d1, d2] => { results := [.lit (.bool false)], args := [d1, d2] }
  | _ => none }
def LevelSignsWrongFalsely : Prop := levelSignsRow.holds Try.pinned (OpenSpec.ofChange levelSignsWrong)

/-- 'curtilagelaw01.LevelTells': WHATEVER THE INPUT: true; the input reads as it did. -/
def levelTellsSpec : ChangeSpec := { name := "levelTells", fn := fun _ => fun
  | [d1, d2] => { results := [.lit (.bool true)], args := [d1, d2] }
  | _ => none }
def levelTellsRow : OpenClaim := { program := "ytocfelaklhpdlaa", sum := "4ad8976fc265dd42b74e67bec5467cdde725f86ac664b32fb8b2332fbec852b5", func := "curtilage/curtilagelaw01.LevelTells", spec := "levelTells", apart := false }
def LevelTellsSaid : Prop := levelTellsRow.holds Try.pinned (OpenSpec.ofChange levelTellsSpec)

/-- ITS FALSE NEIGHBOUR: 'it returns false'. Refute it at one input. -/
def levelTellsWrong : ChangeSpec := { name := "levelTells", fn := fun _ => fun
  | [d1, d2] => { results := [.lit (.bool false)], args := [d1, d2] }
  | _ => none }
def LevelTellsWrongFalsely : Prop := levelTellsRow.holds Try.pinned (OpenSpec.ofChange levelTellsWrong)

/- THE SECOND FORM. 'bulk': how many values and letters a reading holds, each counted each time it is reached (what is shared counts as often as it is met; a slice's spare places count too). A statement '..UptoSaid' is the law's where the arguments, and the package variables that the reading takes, are together of bulk at most 1048576: NARROWER than '..Said'. Prove '..Said' where nothing that the law and all that it calls make is longer than what came in: it says more and counts as full. Else prove '..UptoSaid'. A law counts once. -/
mutual
def uptoBulk {H : Type} : DataW H → Nat
  | .lit (.string bytes) => bytes.length + 1
  | .lit _ => 1
  | .nil => 1
  | .ptr d => uptoBulk d + 1
  | .slice elems spare => uptoBulkAll elems + uptoBulkAll spare + 1
  | .agg parts => uptoBulkAll parts + 1
  | .iface _ d => uptoBulk d + 1
  | .map entries => uptoBulkEntries entries + 1
  | .held _ => 1
def uptoBulkAll {H : Type} : List (DataW H) → Nat
  | [] => 0
  | d :: r => uptoBulk d + uptoBulkAll r
def uptoBulkEntries {H : Type} : List (Lit × DataW H) → Nat
  | [] => 0
  | x :: r => uptoBulkEntry x + uptoBulkEntries r
def uptoBulkEntry {H : Type} : Lit × DataW H → Nat
  | (.string bytes, d) => bytes.length + uptoBulk d + 1
  | (_, d) => uptoBulk d + 1
 end
def uptoSmall : (H : Type) → List (DataW H) → Bool := fun _ ds => decide (uptoBulkAll ds ≤ 1048576)
def OpenSpec.upto (s : _root_.Go.ChangeSpec) : _root_.Go.OpenSpec := { _root_.Go.OpenSpec.ofChange s with cond := some uptoSmall }

/-- 'curtilagelaw01.LevelTexts', WHERE WHAT IT READS IS OF BULK AT MOST 1048576: true; the input reads as it did. -/
def levelTextsUptoRow : OpenClaim := { program := "ytocfelaklhpdlaa", sum := "4ad8976fc265dd42b74e67bec5467cdde725f86ac664b32fb8b2332fbec852b5", func := "curtilage/curtilagelaw01.LevelTexts", spec := "levelTexts", apart := false, narrowed := true }
def LevelTextsUptoSaid : Prop := levelTextsUptoRow.holds Try.pinned (OpenSpec.upto levelTextsSpec)

/-- 'curtilagelaw01.LevelOrder', WHERE WHAT IT READS IS OF BULK AT MOST 1048576: true; the input reads as it did. -/
def levelOrderUptoRow : OpenClaim := { program := "ytocfelaklhpdlaa", sum := "4ad8976fc265dd42b74e67bec5467cdde725f86ac664b32fb8b2332fbec852b5", func := "curtilage/curtilagelaw01.LevelOrder", spec := "levelOrder", apart := false, narrowed := true }
def LevelOrderUptoSaid : Prop := levelOrderUptoRow.holds Try.pinned (OpenSpec.upto levelOrderSpec)

/-- 'curtilagelaw01.LevelRaises', WHERE WHAT IT READS IS OF BULK AT MOST 1048576: true; the input reads as it did. -/
def levelRaisesUptoRow : OpenClaim := { program := "ytocfelaklhpdlaa", sum := "4ad8976fc265dd42b74e67bec5467cdde725f86ac664b32fb8b2332fbec852b5", func := "curtilage/curtilagelaw01.LevelRaises", spec := "levelRaises", apart := false, narrowed := true }
def LevelRaisesUptoSaid : Prop := levelRaisesUptoRow.holds Try.pinned (OpenSpec.upto levelRaisesSpec)

/-- 'curtilagelaw01.LevelSwaps', WHERE WHAT IT READS IS OF BULK AT MOST 1048576: true; the input reads as it did. -/
def levelSwapsUptoRow : OpenClaim := { program := "ytocfelaklhpdlaa", sum := "4ad8976fc265dd42b74e67bec5467cdde725f86ac664b32fb8b2332fbec852b5", func := "curtilage/curtilagelaw01.LevelSwaps", spec := "levelSwaps", apart := false, narrowed := true }
def LevelSwapsUptoSaid : Prop := levelSwapsUptoRow.holds Try.pinned (OpenSpec.upto levelSwapsSpec)

/-- 'curtilagelaw01.LevelSigns', WHERE WHAT IT READS IS OF BULK AT MOST 1048576: true; the input reads as it did. -/
def levelSignsUptoRow : OpenClaim := { program := "ytocfelaklhpdlaa", sum := "4ad8976fc265dd42b74e67bec5467cdde725f86ac664b32fb8b2332fbec852b5", func := "curtilage/curtilagelaw01.LevelSigns", spec := "levelSigns", apart := false, narrowed := true }
def LevelSignsUptoSaid : Prop := levelSignsUptoRow.holds Try.pinned (OpenSpec.upto levelSignsSpec)

/-- 'curtilagelaw01.LevelTells', WHERE WHAT IT READS IS OF BULK AT MOST 1048576: true; the input reads as it did. -/
def levelTellsUptoRow : OpenClaim := { program := "ytocfelaklhpdlaa", sum := "4ad8976fc265dd42b74e67bec5467cdde725f86ac664b32fb8b2332fbec852b5", func := "curtilage/curtilagelaw01.LevelTells", spec := "levelTells", apart := false, narrowed := true }
def LevelTellsUptoSaid : Prop := levelTellsUptoRow.holds Try.pinned (OpenSpec.upto levelTellsSpec)

end Rows
end Go.Proofs.Ytocfelaklhpdlaa
