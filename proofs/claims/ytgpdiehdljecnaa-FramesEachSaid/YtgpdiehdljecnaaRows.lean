/-
  No cell of these rows narrows 'for every input' (looked for: loops, veiled, ifaces, maps, wideKeys, modest, calm, conditions, laid).
  DERIVED. THE GIVEN ROWS OF THIS SEAT. 3 by the template 'for every input the law returns true; each argument reads behind the call as it read before'; 0 by the template 'total and deterministic' (their statements: YtgpdiehdljecnaaTotals.lean).
  GIVEN WITH THE SEED: the statements are not yours to turn. If you find one false, say at which input.
  Laid BY PROGRAM, IN A SANDBOX (cutbox-rows.mjs): the forced cells as the released guide's own fill.sh prints them over the translation 34c1314a6ea7cb6e… (all of the seat's roots in one cut). By AI agents, Wed Nov 11 2026. No macro, syntax, notation, axiom, sorry.
-/
import Derived.Test.YtgpdiehdljecnaaChecked
import GoSem.Claim
import GoSem.ClaimJoined
import GoSem.ClaimMapViews
import Derived.JoinedTies
import Derived.KernelRfl
namespace Go.Proofs.Ytgpdiehdljecnaa
/- THE CELL 'sum', in the pinned program and in every row, IS THE sha256 OF THE DUMP (.gsa) THAT YtgpdiehdljecnaaProg.lean LOADS. Nothing in Lean hashes anything: it is a label: what it is worth is what the hold of that sum in a sandbox is worth. -/
noncomputable def Try.pinned : Pinned := { name := "ytgpdiehdljecnaa", sum := "34c1314a6ea7cb6ea65d6296bbd7dc6d2fa0fcd79c4643d2f6a28648c5762c2e", checked := Try.checked }
namespace Rows
def none {H : Type} : Left H := { results := [], args := [] }

/-- 'curtilagelaw11.FramesEach': WHATEVER THE INPUT: true; the input reads as it did. -/
def framesEachSpec : ChangeSpec := { name := "framesEach", fn := fun _ => fun
  | [d1, d2] => { results := [.lit (.bool true)], args := [d1, d2] }
  | _ => none }
def framesEachRow : OpenClaim := { program := "ytgpdiehdljecnaa", sum := "34c1314a6ea7cb6ea65d6296bbd7dc6d2fa0fcd79c4643d2f6a28648c5762c2e", func := "curtilage/curtilagelaw11.FramesEach", spec := "framesEach", unfollowed := true, recurses := true, plainKeys := false, apart := false }
def FramesEachSaid : Prop := framesEachRow.holds Try.pinned (OpenSpec.ofChange framesEachSpec)

/-- ITS FALSE NEIGHBOUR: 'it returns false'. Refute it at one input. -/
def framesEachWrong : ChangeSpec := { name := "framesEach", fn := fun _ => fun
  | [d1, d2] => { results := [.lit (.bool false)], args := [d1, d2] }
  | _ => none }
def FramesEachWrongFalsely : Prop := framesEachRow.holds Try.pinned (OpenSpec.ofChange framesEachWrong)

/-- 'curtilagelaw11.FramesDrops': WHATEVER THE INPUT: true; the input reads as it did. -/
def framesDropsSpec : ChangeSpec := { name := "framesDrops", fn := fun _ => fun
  | [d1, d2] => { results := [.lit (.bool true)], args := [d1, d2] }
  | _ => none }
def framesDropsRow : OpenClaim := { program := "ytgpdiehdljecnaa", sum := "34c1314a6ea7cb6ea65d6296bbd7dc6d2fa0fcd79c4643d2f6a28648c5762c2e", func := "curtilage/curtilagelaw11.FramesDrops", spec := "framesDrops", unfollowed := true, recurses := true, plainKeys := false, apart := false }
def FramesDropsSaid : Prop := framesDropsRow.holds Try.pinned (OpenSpec.ofChange framesDropsSpec)

/-- ITS FALSE NEIGHBOUR: 'it returns false'. Refute it at one input. -/
def framesDropsWrong : ChangeSpec := { name := "framesDrops", fn := fun _ => fun
  | [d1, d2] => { results := [.lit (.bool false)], args := [d1, d2] }
  | _ => none }
def FramesDropsWrongFalsely : Prop := framesDropsRow.holds Try.pinned (OpenSpec.ofChange framesDropsWrong)

/-- 'curtilagelaw11.FramesDo': WHATEVER THE INPUT: true; the input reads as it did. -/
def framesDoSpec : ChangeSpec := { name := "framesDo", fn := fun _ => fun
  | [d1, d2, d3, d4] => { results := [.lit (.bool true)], args := [d1, d2, d3, d4] }
  | _ => none }
def framesDoRow : OpenClaim := { program := "ytgpdiehdljecnaa", sum := "34c1314a6ea7cb6ea65d6296bbd7dc6d2fa0fcd79c4643d2f6a28648c5762c2e", func := "curtilage/curtilagelaw11.FramesDo", spec := "framesDo", unfollowed := true, recurses := true, plainKeys := false, apart := false }
def FramesDoSaid : Prop := framesDoRow.holds Try.pinned (OpenSpec.ofChange framesDoSpec)

/-- ITS FALSE NEIGHBOUR: 'it returns false'. Refute it at one input. -/
def framesDoWrong : ChangeSpec := { name := "framesDo", fn := fun _ => fun
  | [d1, d2, d3, d4] => { results := [.lit (.bool false)], args := [d1, d2, d3, d4] }
  | _ => none }
def FramesDoWrongFalsely : Prop := framesDoRow.holds Try.pinned (OpenSpec.ofChange framesDoWrong)

/- THE SECOND FORM. 'bulk': how many values and letters a reading holds, each counted each time it is reached (what is shared counts as often as it is met; a slice's spare places count too). A statement '..UptoSaid' is the law's where the arguments, and the package variables that the reading takes, are together of bulk at most 1048576: NARROWER than '..Said'. Prove '..Said' where nothing that the law and all that it calls make is longer than what came in: it says more and counts as full. Else prove '..UptoSaid'. A law counts once. -/
mutual
def uptoBulk {H : Type} : DataW H → Nat
  | .lit (.string bytes) => bytes.length + 1
  | .lit _ => 1
  | .nil => 1
  | .ptr d => uptoBulk d + 1
  | .slice elems spare => uptoBulkAll elems + uptoBulkAll spare + 1
  | .agg parts => uptoBulkAll parts + 1
  | .iface _ d => uptoBulk d + 1
  | .map entries => uptoBulkEntries entries + 1
  | .held _ => 1
def uptoBulkAll {H : Type} : List (DataW H) → Nat
  | [] => 0
  | d :: r => uptoBulk d + uptoBulkAll r
def uptoBulkEntries {H : Type} : List (Lit × DataW H) → Nat
  | [] => 0
  | x :: r => uptoBulkEntry x + uptoBulkEntries r
def uptoBulkEntry {H : Type} : Lit × DataW H → Nat
  | (.string bytes, d) => bytes.length + uptoBulk d + 1
  | (_, d) => uptoBulk d + 1
 end
def uptoSmall : (H : Type) → List (DataW H) → Bool := fun _ ds => decide (uptoBulkAll ds ≤ 1048576)
def OpenSpec.upto (s : _root_.Go.ChangeSpec) : _root_.Go.OpenSpec := { _root_.Go.OpenSpec.ofChange s with cond := some uptoSmall }

/-- 'curtilagelaw11.FramesEach', WHERE WHAT IT READS IS OF BULK AT MOST 1048576: true; the input reads as it did. -/
def framesEachUptoRow : OpenClaim := { program := "ytgpdiehdljecnaa", sum := "34c1314a6ea7cb6ea65d6296bbd7dc6d2fa0fcd79c4643d2f6a28648c5762c2e", func := "curtilage/curtilagelaw11.FramesEach", spec := "framesEach", unfollowed := true, recurses := true, plainKeys := false, apart := false, narrowed := true }
def FramesEachUptoSaid : Prop := framesEachUptoRow.holds Try.pinned (OpenSpec.upto framesEachSpec)

/-- 'curtilagelaw11.FramesDrops', WHERE WHAT IT READS IS OF BULK AT MOST 1048576: true; the input reads as it did. -/
def framesDropsUptoRow : OpenClaim := { program := "ytgpdiehdljecnaa", sum := "34c1314a6ea7cb6ea65d6296bbd7dc6d2fa0fcd79c4643d2f6a28648c5762c2e", func := "curtilage/curtilagelaw11.FramesDrops", spec := "framesDrops", unfollowed := true, recurses := true, plainKeys := false, apart := false, narrowed := true }
def FramesDropsUptoSaid : Prop := framesDropsUptoRow.holds Try.pinned (OpenSpec.upto framesDropsSpec)

/-- 'curtilagelaw11.FramesDo', WHERE WHAT IT READS IS OF BULK AT MOST 1048576: true; the input reads as it did. -/
def framesDoUptoRow : OpenClaim := { program := "ytgpdiehdljecnaa", sum := "34c1314a6ea7cb6ea65d6296bbd7dc6d2fa0fcd79c4643d2f6a28648c5762c2e", func := "curtilage/curtilagelaw11.FramesDo", spec := "framesDo", unfollowed := true, recurses := true, plainKeys := false, apart := false, narrowed := true }
def FramesDoUptoSaid : Prop := framesDoUptoRow.holds Try.pinned (OpenSpec.upto framesDoSpec)

end Rows
end Go.Proofs.Ytgpdiehdljecnaa
