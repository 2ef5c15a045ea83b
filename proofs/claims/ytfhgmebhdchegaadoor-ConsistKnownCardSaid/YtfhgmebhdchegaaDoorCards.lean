/-
  DERIVED. GIVEN WITH THE SEED: THE CARDS: each row of YtfhgmebhdchegaaDoorRows.lean that lists a variable, with what it lists TIED to the program's text (the seventh form; the later family's looks); each row that meets fmt, with fmt's text TOLD by the authors' own Lean function (tested against real Go, not proved from fmt's source: count such statements apart). THE CARD IS WHAT COUNTS. Prove the row's statement (the work); the ties are given (YtfhgmebhdchegaaDoorTie.lean); close each card by the builder's one call (the guide's Derived/Test/ToyasCard.lean, 'card_holds'). Laid BY PROGRAM, IN A SANDBOX (cutbox-door.mjs). By AI agents, Wed Nov 11 2026. No macro, syntax, notation, axiom, sorry.
-/
import Derived.Test.YtfhgmebhdchegaaDoorRows
import GoSem.ClaimSeven
namespace Go.Proofs.YtfhgmebhdchegaaDoor
namespace Rows

/-- THE TIED CARD OF 'chaperonlaw07.ConsistKnown'. -/
def consistKnownCard : Claim7 := { stood := { row := consistKnownRow, standIns := [], harness := (true, "b108bfff97c67c33a5533832849a226c5cf00fdfbcb59fcf56f66ad30d4d794a"), looks := false }, kinds := [], alts := [], laidByText := true, laidKinds := [.data, .listed, .data, .pinned], laidTests := true, laidLooks := .later }
def ConsistKnownCardSaid : Prop := Claim7.holds Tryd.pinned (.plain (OpenSpec.ofChange consistKnownSpec)) consistKnownCard

/-- THE TIED CARD OF 'chaperonlaw07.ConsistPlain'. -/
def consistPlainCard : Claim7 := { stood := { row := consistPlainRow, standIns := [], harness := (true, "b108bfff97c67c33a5533832849a226c5cf00fdfbcb59fcf56f66ad30d4d794a"), looks := false }, kinds := [], alts := [], laidByText := true, laidKinds := [.data, .listed, .data, .pinned], laidTests := true, laidLooks := .later }
def ConsistPlainCardSaid : Prop := Claim7.holds Tryd.pinned (.plain (OpenSpec.ofChange consistPlainSpec)) consistPlainCard

/-- THE TIED CARD OF 'chaperonlaw07.ConsistGreatest'. -/
def consistGreatestCard : Claim7 := { stood := { row := consistGreatestRow, standIns := [], harness := (true, "b108bfff97c67c33a5533832849a226c5cf00fdfbcb59fcf56f66ad30d4d794a"), looks := false }, kinds := [], alts := [], laidByText := true, laidKinds := [.data, .listed, .data, .pinned], laidTests := true, laidLooks := .later }
def ConsistGreatestCardSaid : Prop := Claim7.holds Tryd.pinned (.plain (OpenSpec.ofChange consistGreatestSpec)) consistGreatestCard

/-- THE TIED CARD OF 'chaperonlaw07.ConsistLooser'. -/
def consistLooserCard : Claim7 := { stood := { row := consistLooserRow, standIns := [], harness := (true, "b108bfff97c67c33a5533832849a226c5cf00fdfbcb59fcf56f66ad30d4d794a"), looks := false }, kinds := [], alts := [], laidByText := true, laidKinds := [.data, .listed, .data, .pinned], laidTests := true, laidLooks := .later }
def ConsistLooserCardSaid : Prop := Claim7.holds Tryd.pinned (.plain (OpenSpec.ofChange consistLooserSpec)) consistLooserCard

/-- THE SECOND FORM's CARD OF 'chaperonlaw07.ConsistKnown'. -/
def consistKnownUptoCard : Claim7 := { stood := { row := consistKnownUptoRow, standIns := [], harness := (true, "b108bfff97c67c33a5533832849a226c5cf00fdfbcb59fcf56f66ad30d4d794a"), looks := false }, kinds := [], alts := [], laidByText := true, laidKinds := [.data, .listed, .data, .pinned], laidTests := true, laidLooks := .later }
def ConsistKnownUptoCardSaid : Prop := Claim7.holds Tryd.pinned (.plain (OpenSpec.upto consistKnownSpec)) consistKnownUptoCard

/-- THE SECOND FORM's CARD OF 'chaperonlaw07.ConsistPlain'. -/
def consistPlainUptoCard : Claim7 := { stood := { row := consistPlainUptoRow, standIns := [], harness := (true, "b108bfff97c67c33a5533832849a226c5cf00fdfbcb59fcf56f66ad30d4d794a"), looks := false }, kinds := [], alts := [], laidByText := true, laidKinds := [.data, .listed, .data, .pinned], laidTests := true, laidLooks := .later }
def ConsistPlainUptoCardSaid : Prop := Claim7.holds Tryd.pinned (.plain (OpenSpec.upto consistPlainSpec)) consistPlainUptoCard

/-- THE SECOND FORM's CARD OF 'chaperonlaw07.ConsistGreatest'. -/
def consistGreatestUptoCard : Claim7 := { stood := { row := consistGreatestUptoRow, standIns := [], harness := (true, "b108bfff97c67c33a5533832849a226c5cf00fdfbcb59fcf56f66ad30d4d794a"), looks := false }, kinds := [], alts := [], laidByText := true, laidKinds := [.data, .listed, .data, .pinned], laidTests := true, laidLooks := .later }
def ConsistGreatestUptoCardSaid : Prop := Claim7.holds Tryd.pinned (.plain (OpenSpec.upto consistGreatestSpec)) consistGreatestUptoCard

/-- THE SECOND FORM's CARD OF 'chaperonlaw07.ConsistLooser'. -/
def consistLooserUptoCard : Claim7 := { stood := { row := consistLooserUptoRow, standIns := [], harness := (true, "b108bfff97c67c33a5533832849a226c5cf00fdfbcb59fcf56f66ad30d4d794a"), looks := false }, kinds := [], alts := [], laidByText := true, laidKinds := [.data, .listed, .data, .pinned], laidTests := true, laidLooks := .later }
def ConsistLooserUptoCardSaid : Prop := Claim7.holds Tryd.pinned (.plain (OpenSpec.upto consistLooserSpec)) consistLooserUptoCard
end Rows
end Go.Proofs.YtfhgmebhdchegaaDoor
