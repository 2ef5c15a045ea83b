/-
  DERIVED. GIVEN WITH THE SEED: THE CARDS: each row of YtofoegknealilaaDoorRows.lean that lists a variable, with what it lists TIED to the program's text (the seventh form; the later family's looks); each row that meets fmt, with fmt's text TOLD by the authors' own Lean function (tested against real Go, not proved from fmt's source: count such statements apart). THE CARD IS WHAT COUNTS. Prove the row's statement (the work); the ties are given (YtofoegknealilaaDoorTie.lean); close each card by the builder's one call (the guide's Derived/Test/ToyasCard.lean, 'card_holds'). Laid BY PROGRAM, IN A SANDBOX (cutbox-door.mjs). By AI agents, Wed Nov 11 2026. No macro, syntax, notation, axiom, sorry.
-/
import Derived.Test.YtofoegknealilaaDoorRows
import GoSem.ClaimSeven
namespace Go.Proofs.YtofoegknealilaaDoor
namespace Rows

/-- THE TIED CARD OF 'chaperonlaw06.SubtypeKnown'. -/
def subtypeKnownCard : Claim7 := { stood := { row := subtypeKnownRow, standIns := [], harness := (true, "2657ecfe6573ee1c1d7d6038eaafe89dd57767082ff9aa89adb295916e4acfbb"), looks := false }, kinds := [], alts := [], laidByText := true, laidKinds := [.data, .listed, .data, .pinned], laidTests := true, laidLooks := .later }
def SubtypeKnownCardSaid : Prop := Claim7.holds Tryd.pinned (.plain (OpenSpec.ofChange subtypeKnownSpec)) subtypeKnownCard

/-- THE TIED CARD OF 'chaperonlaw06.SubtypeOrder'. -/
def subtypeOrderCard : Claim7 := { stood := { row := subtypeOrderRow, standIns := [], harness := (true, "2657ecfe6573ee1c1d7d6038eaafe89dd57767082ff9aa89adb295916e4acfbb"), looks := false }, kinds := [], alts := [], laidByText := true, laidKinds := [.data, .listed, .data, .pinned], laidTests := true, laidLooks := .later }
def SubtypeOrderCardSaid : Prop := Claim7.holds Tryd.pinned (.plain (OpenSpec.ofChange subtypeOrderSpec)) subtypeOrderCard

/-- THE TIED CARD OF 'chaperonlaw06.SubtypeJoin'. -/
def subtypeJoinCard : Claim7 := { stood := { row := subtypeJoinRow, standIns := [], harness := (true, "2657ecfe6573ee1c1d7d6038eaafe89dd57767082ff9aa89adb295916e4acfbb"), looks := false }, kinds := [], alts := [], laidByText := true, laidKinds := [.data, .listed, .data, .pinned], laidTests := true, laidLooks := .later }
def SubtypeJoinCardSaid : Prop := Claim7.holds Tryd.pinned (.plain (OpenSpec.ofChange subtypeJoinSpec)) subtypeJoinCard

/-- THE TIED CARD OF 'chaperonlaw06.SubtypeHas'. -/
def subtypeHasCard : Claim7 := { stood := { row := subtypeHasRow, standIns := [], harness := (true, "2657ecfe6573ee1c1d7d6038eaafe89dd57767082ff9aa89adb295916e4acfbb"), looks := false }, kinds := [], alts := [], laidByText := true, laidKinds := [.data, .listed, .data, .pinned], laidTests := true, laidLooks := .later }
def SubtypeHasCardSaid : Prop := Claim7.holds Tryd.pinned (.plain (OpenSpec.ofChange subtypeHasSpec)) subtypeHasCard

/-- THE SECOND FORM's CARD OF 'chaperonlaw06.SubtypeKnown'. -/
def subtypeKnownUptoCard : Claim7 := { stood := { row := subtypeKnownUptoRow, standIns := [], harness := (true, "2657ecfe6573ee1c1d7d6038eaafe89dd57767082ff9aa89adb295916e4acfbb"), looks := false }, kinds := [], alts := [], laidByText := true, laidKinds := [.data, .listed, .data, .pinned], laidTests := true, laidLooks := .later }
def SubtypeKnownUptoCardSaid : Prop := Claim7.holds Tryd.pinned (.plain (OpenSpec.upto subtypeKnownSpec)) subtypeKnownUptoCard

/-- THE SECOND FORM's CARD OF 'chaperonlaw06.SubtypeOrder'. -/
def subtypeOrderUptoCard : Claim7 := { stood := { row := subtypeOrderUptoRow, standIns := [], harness := (true, "2657ecfe6573ee1c1d7d6038eaafe89dd57767082ff9aa89adb295916e4acfbb"), looks := false }, kinds := [], alts := [], laidByText := true, laidKinds := [.data, .listed, .data, .pinned], laidTests := true, laidLooks := .later }
def SubtypeOrderUptoCardSaid : Prop := Claim7.holds Tryd.pinned (.plain (OpenSpec.upto subtypeOrderSpec)) subtypeOrderUptoCard

/-- THE SECOND FORM's CARD OF 'chaperonlaw06.SubtypeJoin'. -/
def subtypeJoinUptoCard : Claim7 := { stood := { row := subtypeJoinUptoRow, standIns := [], harness := (true, "2657ecfe6573ee1c1d7d6038eaafe89dd57767082ff9aa89adb295916e4acfbb"), looks := false }, kinds := [], alts := [], laidByText := true, laidKinds := [.data, .listed, .data, .pinned], laidTests := true, laidLooks := .later }
def SubtypeJoinUptoCardSaid : Prop := Claim7.holds Tryd.pinned (.plain (OpenSpec.upto subtypeJoinSpec)) subtypeJoinUptoCard

/-- THE SECOND FORM's CARD OF 'chaperonlaw06.SubtypeHas'. -/
def subtypeHasUptoCard : Claim7 := { stood := { row := subtypeHasUptoRow, standIns := [], harness := (true, "2657ecfe6573ee1c1d7d6038eaafe89dd57767082ff9aa89adb295916e4acfbb"), looks := false }, kinds := [], alts := [], laidByText := true, laidKinds := [.data, .listed, .data, .pinned], laidTests := true, laidLooks := .later }
def SubtypeHasUptoCardSaid : Prop := Claim7.holds Tryd.pinned (.plain (OpenSpec.upto subtypeHasSpec)) subtypeHasUptoCard
end Rows
end Go.Proofs.YtofoegknealilaaDoor
