/-
  DERIVED. GIVEN WITH THE SEED: THE CARDS: each row of YtjcjfeoipcbdoaaDoorRows.lean that lists a variable, with what it lists TIED to the program's text (the seventh form; the later family's looks); each row that meets fmt, with fmt's text TOLD by the authors' own Lean function (tested against real Go, not proved from fmt's source: count such statements apart). THE CARD IS WHAT COUNTS. Prove the row's statement (the work); the ties are given (YtjcjfeoipcbdoaaDoorTie.lean); close each card by the builder's one call (the guide's Derived/Test/ToyasCard.lean, 'card_holds'). Laid BY PROGRAM, IN A SANDBOX (cutbox-door.mjs). By AI agents, Wed Nov 11 2026. No macro, syntax, notation, axiom, sorry.
-/
import Derived.Test.YtjcjfeoipcbdoaaDoorRows
import GoSem.ClaimSeven
namespace Go.Proofs.YtjcjfeoipcbdoaaDoor
namespace Rows

/-- THE TIED CARD OF 'curtilagelaw04.CodecTexts'. -/
def codecTextsCard : Claim7 := { stood := { row := codecTextsRow, standIns := [], harness := (true, "287f24b0dd8ec3233c097da19c659e55a6cfa0f6b6b4b1e3361edbbb6554787d"), looks := true }, kinds := [], alts := [], laidByText := true, laidKinds := [.data, .data, .data, .sentinel, .sentinel], laidTests := true, laidLooks := .later }
def CodecTextsCardSaid : Prop := Claim7.holds Tryd.pinned (.plain (OpenSpec.ofChange codecTextsSpec)) codecTextsCard

/-- THE TIED CARD OF 'curtilagelaw04.CodecWords'. -/
def codecWordsCard : Claim7 := { stood := { row := codecWordsRow, standIns := [], harness := (true, "287f24b0dd8ec3233c097da19c659e55a6cfa0f6b6b4b1e3361edbbb6554787d"), looks := true }, kinds := [], alts := [], laidByText := true, laidKinds := [.data, .data, .data, .sentinel, .sentinel], laidTests := true, laidLooks := .later }
def CodecWordsCardSaid : Prop := Claim7.holds Tryd.pinned (.plain (OpenSpec.ofChange codecWordsSpec)) codecWordsCard

/-- THE TIED CARD OF 'curtilagelaw04.CodecBack'. -/
def codecBackCard : Claim7 := { stood := { row := codecBackRow, standIns := [], harness := (true, "287f24b0dd8ec3233c097da19c659e55a6cfa0f6b6b4b1e3361edbbb6554787d"), looks := true }, kinds := [], alts := [], laidByText := true, laidKinds := [.data, .data, .data, .sentinel, .sentinel], laidTests := true, laidLooks := .later }
def CodecBackCardSaid : Prop := Claim7.holds Tryd.pinned (.plain (OpenSpec.ofChange codecBackSpec)) codecBackCard

/-- THE TIED CARD OF 'curtilagelaw04.CodecRow'. -/
def codecRowCard : Claim7 := { stood := { row := codecRowRow, standIns := [], harness := (true, "287f24b0dd8ec3233c097da19c659e55a6cfa0f6b6b4b1e3361edbbb6554787d"), looks := true }, kinds := [], alts := [], laidByText := true, laidKinds := [.data, .data, .data, .sentinel, .sentinel], laidTests := true, laidLooks := .later }
def CodecRowCardSaid : Prop := Claim7.holds Tryd.pinned (.plain (OpenSpec.ofChange codecRowSpec)) codecRowCard

/-- THE SECOND FORM's CARD OF 'curtilagelaw04.CodecTexts'. -/
def codecTextsUptoCard : Claim7 := { stood := { row := codecTextsUptoRow, standIns := [], harness := (true, "287f24b0dd8ec3233c097da19c659e55a6cfa0f6b6b4b1e3361edbbb6554787d"), looks := true }, kinds := [], alts := [], laidByText := true, laidKinds := [.data, .data, .data, .sentinel, .sentinel], laidTests := true, laidLooks := .later }
def CodecTextsUptoCardSaid : Prop := Claim7.holds Tryd.pinned (.plain (OpenSpec.upto codecTextsSpec)) codecTextsUptoCard

/-- THE SECOND FORM's CARD OF 'curtilagelaw04.CodecWords'. -/
def codecWordsUptoCard : Claim7 := { stood := { row := codecWordsUptoRow, standIns := [], harness := (true, "287f24b0dd8ec3233c097da19c659e55a6cfa0f6b6b4b1e3361edbbb6554787d"), looks := true }, kinds := [], alts := [], laidByText := true, laidKinds := [.data, .data, .data, .sentinel, .sentinel], laidTests := true, laidLooks := .later }
def CodecWordsUptoCardSaid : Prop := Claim7.holds Tryd.pinned (.plain (OpenSpec.upto codecWordsSpec)) codecWordsUptoCard

/-- THE SECOND FORM's CARD OF 'curtilagelaw04.CodecBack'. -/
def codecBackUptoCard : Claim7 := { stood := { row := codecBackUptoRow, standIns := [], harness := (true, "287f24b0dd8ec3233c097da19c659e55a6cfa0f6b6b4b1e3361edbbb6554787d"), looks := true }, kinds := [], alts := [], laidByText := true, laidKinds := [.data, .data, .data, .sentinel, .sentinel], laidTests := true, laidLooks := .later }
def CodecBackUptoCardSaid : Prop := Claim7.holds Tryd.pinned (.plain (OpenSpec.upto codecBackSpec)) codecBackUptoCard

/-- THE SECOND FORM's CARD OF 'curtilagelaw04.CodecRow'. -/
def codecRowUptoCard : Claim7 := { stood := { row := codecRowUptoRow, standIns := [], harness := (true, "287f24b0dd8ec3233c097da19c659e55a6cfa0f6b6b4b1e3361edbbb6554787d"), looks := true }, kinds := [], alts := [], laidByText := true, laidKinds := [.data, .data, .data, .sentinel, .sentinel], laidTests := true, laidLooks := .later }
def CodecRowUptoCardSaid : Prop := Claim7.holds Tryd.pinned (.plain (OpenSpec.upto codecRowSpec)) codecRowUptoCard
end Rows
end Go.Proofs.YtjcjfeoipcbdoaaDoor
