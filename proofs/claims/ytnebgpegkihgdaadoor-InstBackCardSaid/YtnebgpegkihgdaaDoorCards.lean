/-
  DERIVED. GIVEN WITH THE SEED: THE CARDS: each row of YtnebgpegkihgdaaDoorRows.lean that lists a variable, with what it lists TIED to the program's text (the seventh form; the later family's looks); each row that meets fmt, with fmt's text TOLD by the authors' own Lean function (tested against real Go, not proved from fmt's source: count such statements apart). THE CARD IS WHAT COUNTS. Prove the row's statement (the work); the ties are given (YtnebgpegkihgdaaDoorTie.lean); close each card by the builder's one call (the guide's Derived/Test/ToyasCard.lean, 'card_holds'). Laid BY PROGRAM, IN A SANDBOX (cutbox-door.mjs). By AI agents, Wed Nov 11 2026. No macro, syntax, notation, axiom, sorry.
-/
import Derived.Test.YtnebgpegkihgdaaDoorRows
import GoSem.ClaimSeven
namespace Go.Proofs.YtnebgpegkihgdaaDoor
namespace Rows

/-- THE TIED CARD OF 'curtilagelaw08.InstTells'. -/
def instTellsCard : Claim7 := { stood := { row := instTellsRow, standIns := [], harness := (true, "2415e1782aecb461ee227f0fbdb7fb1c3f1f0202222807772f8f00d942f21f75"), looks := false }, kinds := [], alts := [], laidByText := true, laidKinds := [.data, .data, .data], laidTests := true, laidLooks := .later }
def InstTellsCardSaid : Prop := Claim7.holds Tryd.pinned (.plain (OpenSpec.ofChange instTellsSpec)) instTellsCard

/-- THE TIED CARD OF 'curtilagelaw08.InstBack'. -/
def instBackCard : Claim7 := { stood := { row := instBackRow, standIns := [], harness := (true, "2415e1782aecb461ee227f0fbdb7fb1c3f1f0202222807772f8f00d942f21f75"), looks := false }, kinds := [], alts := [], laidByText := true, laidKinds := [.data, .data, .data], laidTests := true, laidLooks := .later }
def InstBackCardSaid : Prop := Claim7.holds Tryd.pinned (.plain (OpenSpec.ofChange instBackSpec)) instBackCard

/-- THE TIED CARD OF 'curtilagelaw08.InstFields'. -/
def instFieldsCard : Claim7 := { stood := { row := instFieldsRow, standIns := [], harness := (true, "2415e1782aecb461ee227f0fbdb7fb1c3f1f0202222807772f8f00d942f21f75"), looks := false }, kinds := [], alts := [], laidByText := true, laidKinds := [.data, .data, .data], laidTests := true, laidLooks := .later }
def InstFieldsCardSaid : Prop := Claim7.holds Tryd.pinned (.plain (OpenSpec.ofChange instFieldsSpec)) instFieldsCard

/-- THE SECOND FORM's CARD OF 'curtilagelaw08.InstTells'. -/
def instTellsUptoCard : Claim7 := { stood := { row := instTellsUptoRow, standIns := [], harness := (true, "2415e1782aecb461ee227f0fbdb7fb1c3f1f0202222807772f8f00d942f21f75"), looks := false }, kinds := [], alts := [], laidByText := true, laidKinds := [.data, .data, .data], laidTests := true, laidLooks := .later }
def InstTellsUptoCardSaid : Prop := Claim7.holds Tryd.pinned (.plain (OpenSpec.upto instTellsSpec)) instTellsUptoCard

/-- THE SECOND FORM's CARD OF 'curtilagelaw08.InstBack'. -/
def instBackUptoCard : Claim7 := { stood := { row := instBackUptoRow, standIns := [], harness := (true, "2415e1782aecb461ee227f0fbdb7fb1c3f1f0202222807772f8f00d942f21f75"), looks := false }, kinds := [], alts := [], laidByText := true, laidKinds := [.data, .data, .data], laidTests := true, laidLooks := .later }
def InstBackUptoCardSaid : Prop := Claim7.holds Tryd.pinned (.plain (OpenSpec.upto instBackSpec)) instBackUptoCard

/-- THE SECOND FORM's CARD OF 'curtilagelaw08.InstFields'. -/
def instFieldsUptoCard : Claim7 := { stood := { row := instFieldsUptoRow, standIns := [], harness := (true, "2415e1782aecb461ee227f0fbdb7fb1c3f1f0202222807772f8f00d942f21f75"), looks := false }, kinds := [], alts := [], laidByText := true, laidKinds := [.data, .data, .data], laidTests := true, laidLooks := .later }
def InstFieldsUptoCardSaid : Prop := Claim7.holds Tryd.pinned (.plain (OpenSpec.upto instFieldsSpec)) instFieldsUptoCard
end Rows
end Go.Proofs.YtnebgpegkihgdaaDoor
