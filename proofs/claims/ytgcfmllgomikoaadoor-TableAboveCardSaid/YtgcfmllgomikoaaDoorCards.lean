/-
  DERIVED. GIVEN WITH THE SEED: THE CARDS: each row of YtgcfmllgomikoaaDoorRows.lean that lists a variable, with what it lists TIED to the program's text (the seventh form; the later family's looks); each row that meets fmt, with fmt's text TOLD by the authors' own Lean function (tested against real Go, not proved from fmt's source: count such statements apart). THE CARD IS WHAT COUNTS. Prove the row's statement (the work); the ties are given (YtgcfmllgomikoaaDoorTie.lean); close each card by the builder's one call (the guide's Derived/Test/ToyasCard.lean, 'card_holds'). Laid BY PROGRAM, IN A SANDBOX (cutbox-door.mjs). By AI agents, Wed Nov 11 2026. No macro, syntax, notation, axiom, sorry.
-/
import Derived.Test.YtgcfmllgomikoaaDoorRows
import GoSem.ClaimSeven
namespace Go.Proofs.YtgcfmllgomikoaaDoor
namespace Rows

/-- THE TIED CARD OF 'chaperonlaw05.TableKnown'. -/
def tableKnownCard : Claim7 := { stood := { row := tableKnownRow, standIns := [], harness := (true, "b5918da85c3c18e9bf2f023d8fb42b5a1b64b5529d280a758fcd6c635faef647"), looks := false }, kinds := [], alts := [], laidByText := true, laidKinds := [.data, .listed, .data, .pinned], laidTests := true, laidLooks := .later }
def TableKnownCardSaid : Prop := Claim7.holds Tryd.pinned (.plain (OpenSpec.ofChange tableKnownSpec)) tableKnownCard

/-- THE TIED CARD OF 'chaperonlaw05.TableOnce'. -/
def tableOnceCard : Claim7 := { stood := { row := tableOnceRow, standIns := [], harness := (true, "b5918da85c3c18e9bf2f023d8fb42b5a1b64b5529d280a758fcd6c635faef647"), looks := false }, kinds := [], alts := [], laidByText := true, laidKinds := [.data, .listed, .data, .pinned], laidTests := true, laidLooks := .later }
def TableOnceCardSaid : Prop := Claim7.holds Tryd.pinned (.plain (OpenSpec.ofChange tableOnceSpec)) tableOnceCard

/-- THE TIED CARD OF 'chaperonlaw05.TableAbove'. -/
def tableAboveCard : Claim7 := { stood := { row := tableAboveRow, standIns := [], harness := (true, "b5918da85c3c18e9bf2f023d8fb42b5a1b64b5529d280a758fcd6c635faef647"), looks := false }, kinds := [], alts := [], laidByText := true, laidKinds := [.data, .listed, .data, .pinned], laidTests := true, laidLooks := .later }
def TableAboveCardSaid : Prop := Claim7.holds Tryd.pinned (.plain (OpenSpec.ofChange tableAboveSpec)) tableAboveCard

/-- THE SECOND FORM's CARD OF 'chaperonlaw05.TableKnown'. -/
def tableKnownUptoCard : Claim7 := { stood := { row := tableKnownUptoRow, standIns := [], harness := (true, "b5918da85c3c18e9bf2f023d8fb42b5a1b64b5529d280a758fcd6c635faef647"), looks := false }, kinds := [], alts := [], laidByText := true, laidKinds := [.data, .listed, .data, .pinned], laidTests := true, laidLooks := .later }
def TableKnownUptoCardSaid : Prop := Claim7.holds Tryd.pinned (.plain (OpenSpec.upto tableKnownSpec)) tableKnownUptoCard

/-- THE SECOND FORM's CARD OF 'chaperonlaw05.TableOnce'. -/
def tableOnceUptoCard : Claim7 := { stood := { row := tableOnceUptoRow, standIns := [], harness := (true, "b5918da85c3c18e9bf2f023d8fb42b5a1b64b5529d280a758fcd6c635faef647"), looks := false }, kinds := [], alts := [], laidByText := true, laidKinds := [.data, .listed, .data, .pinned], laidTests := true, laidLooks := .later }
def TableOnceUptoCardSaid : Prop := Claim7.holds Tryd.pinned (.plain (OpenSpec.upto tableOnceSpec)) tableOnceUptoCard

/-- THE SECOND FORM's CARD OF 'chaperonlaw05.TableAbove'. -/
def tableAboveUptoCard : Claim7 := { stood := { row := tableAboveUptoRow, standIns := [], harness := (true, "b5918da85c3c18e9bf2f023d8fb42b5a1b64b5529d280a758fcd6c635faef647"), looks := false }, kinds := [], alts := [], laidByText := true, laidKinds := [.data, .listed, .data, .pinned], laidTests := true, laidLooks := .later }
def TableAboveUptoCardSaid : Prop := Claim7.holds Tryd.pinned (.plain (OpenSpec.upto tableAboveSpec)) tableAboveUptoCard
end Rows
end Go.Proofs.YtgcfmllgomikoaaDoor
