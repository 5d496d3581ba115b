/-
  DERIVED. GIVEN WITH THE SEED: THE CARDS: each row of YtbelnkdbghggmaaDoorRows.lean that lists a variable, with what it lists TIED to the program's text (the seventh form; the later family's looks); each row that meets fmt, with fmt's text TOLD by the authors' own Lean function (tested against real Go, not proved from fmt's source: count such statements apart). THE CARD IS WHAT COUNTS. Prove the row's statement (the work); the ties are given (YtbelnkdbghggmaaDoorTie.lean); close each card by the builder's one call (the guide's Derived/Test/ToyasCard.lean, 'card_holds'). Laid BY PROGRAM, IN A SANDBOX (cutbox-door.mjs). By AI agents, Wed Nov 11 2026. No macro, syntax, notation, axiom, sorry.
-/
import Derived.Test.YtbelnkdbghggmaaDoorRows
import GoSem.ClaimSeven
namespace Go.Proofs.YtbelnkdbghggmaaDoor
namespace Rows

/-- THE TIED CARD OF 'curtilagelaw10.AsmJoins'. -/
def asmJoinsCard : Claim7 := { stood := { row := asmJoinsRow, standIns := [], harness := (true, "8ecef0ed80c52c444762c93cf298b2e9f74961713d5b11ee0717e1310e68dae2"), looks := true }, kinds := [], alts := [], laidByText := true, laidKinds := [.data, .data, .data, .data, .sentinel, .sentinel, .pinned], laidTests := true, laidLooks := .later }
def AsmJoinsCardSaid : Prop := Claim7.holds Tryd.pinned (.plain (OpenSpec.ofChange asmJoinsSpec)) asmJoinsCard

/-- THE TIED CARD OF 'curtilagelaw10.AsmGoes'. -/
def asmGoesCard : Claim7 := { stood := { row := asmGoesRow, standIns := [], harness := (true, "8ecef0ed80c52c444762c93cf298b2e9f74961713d5b11ee0717e1310e68dae2"), looks := true }, kinds := [], alts := [], laidByText := true, laidKinds := [.data, .data, .data, .data, .sentinel, .sentinel, .pinned], laidTests := true, laidLooks := .later }
def AsmGoesCardSaid : Prop := Claim7.holds Tryd.pinned (.plain (OpenSpec.ofChange asmGoesSpec)) asmGoesCard

/-- THE SECOND FORM's CARD OF 'curtilagelaw10.AsmJoins'. -/
def asmJoinsUptoCard : Claim7 := { stood := { row := asmJoinsUptoRow, standIns := [], harness := (true, "8ecef0ed80c52c444762c93cf298b2e9f74961713d5b11ee0717e1310e68dae2"), looks := true }, kinds := [], alts := [], laidByText := true, laidKinds := [.data, .data, .data, .data, .sentinel, .sentinel, .pinned], laidTests := true, laidLooks := .later }
def AsmJoinsUptoCardSaid : Prop := Claim7.holds Tryd.pinned (.plain (OpenSpec.upto asmJoinsSpec)) asmJoinsUptoCard

/-- THE SECOND FORM's CARD OF 'curtilagelaw10.AsmGoes'. -/
def asmGoesUptoCard : Claim7 := { stood := { row := asmGoesUptoRow, standIns := [], harness := (true, "8ecef0ed80c52c444762c93cf298b2e9f74961713d5b11ee0717e1310e68dae2"), looks := true }, kinds := [], alts := [], laidByText := true, laidKinds := [.data, .data, .data, .data, .sentinel, .sentinel, .pinned], laidTests := true, laidLooks := .later }
def AsmGoesUptoCardSaid : Prop := Claim7.holds Tryd.pinned (.plain (OpenSpec.upto asmGoesSpec)) asmGoesUptoCard
end Rows
end Go.Proofs.YtbelnkdbghggmaaDoor
