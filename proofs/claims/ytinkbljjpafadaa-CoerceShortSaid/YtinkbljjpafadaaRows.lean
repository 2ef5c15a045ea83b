/-
  No cell of these rows narrows 'for every input' (looked for: loops, veiled, ifaces, maps, wideKeys, modest, calm, conditions, laid).
  DERIVED. THE GIVEN ROWS OF THIS SEAT. 3 by the template 'for every input the law returns true; each argument reads behind the call as it read before'; 0 by the template 'total and deterministic' (their statements: YtinkbljjpafadaaTotals.lean).
  GIVEN WITH THE SEED: the statements are not yours to turn. If you find one false, say at which input.
  Laid BY PROGRAM, IN A SANDBOX (cutbox-rows.mjs): the forced cells as the released guide's own fill.sh prints them over the translation c37a7b4b1e0d2b80… (all of the seat's roots in one cut). By AI agents, Wed Nov 11 2026. No macro, syntax, notation, axiom, sorry.
-/
import Derived.Test.YtinkbljjpafadaaChecked
import GoSem.Claim
import GoSem.ClaimJoined
import GoSem.ClaimMapViews
import Derived.JoinedTies
import Derived.KernelRfl
namespace Go.Proofs.Ytinkbljjpafadaa
/- THE CELL 'sum', in the pinned program and in every row, IS THE sha256 OF THE DUMP (.gsa) THAT YtinkbljjpafadaaProg.lean LOADS. Nothing in Lean hashes anything: it is a label: what it is worth is what the hold of that sum in a sandbox is worth. -/
noncomputable def Try.pinned : Pinned := { name := "ytinkbljjpafadaa", sum := "c37a7b4b1e0d2b80863c557107f8bf8ac8b7597139ebeee340aed793e9759800", checked := Try.checked }
namespace Rows
def none {H : Type} : Left H := { results := [], args := [] }

/-- 'chaperonlaw16.CoerceKnown': WHATEVER THE INPUT: true; the input reads as it did. -/
def coerceKnownSpec : ChangeSpec := { name := "coerceKnown", fn := fun _ => fun
  | [] => { results := [.lit (.bool true)], args := [] }
  | _ => none }
def coerceKnownRow : OpenClaim := { program := "ytinkbljjpafadaa", sum := "c37a7b4b1e0d2b80863c557107f8bf8ac8b7597139ebeee340aed793e9759800", func := "chaperon/chaperonlaw16.CoerceKnown", spec := "coerceKnown", unfollowed := true, recurses := true, plainKeys := false, apart := false }
def CoerceKnownSaid : Prop := coerceKnownRow.holds Try.pinned (OpenSpec.ofChange coerceKnownSpec)

/-- ITS FALSE NEIGHBOUR: 'it returns false'. Refute it at one input. -/
def coerceKnownWrong : ChangeSpec := { name := "coerceKnown", fn := fun _ => fun
  | [] => { results := [.lit (.bool false)], args := [] }
  | _ => none }
def CoerceKnownWrongFalsely : Prop := coerceKnownRow.holds Try.pinned (OpenSpec.ofChange coerceKnownWrong)

/-- 'chaperonlaw16.CoerceShort': WHATEVER THE INPUT: true; the input reads as it did. -/
def coerceShortSpec : ChangeSpec := { name := "coerceShort", fn := fun _ => fun
  | [d1, d2, d3, d4, d5] => { results := [.lit (.bool true)], args := [d1, d2, d3, d4, d5] }
  | _ => none }
def coerceShortRow : OpenClaim := { program := "ytinkbljjpafadaa", sum := "c37a7b4b1e0d2b80863c557107f8bf8ac8b7597139ebeee340aed793e9759800", func := "chaperon/chaperonlaw16.CoerceShort", spec := "coerceShort", unfollowed := true, recurses := true, plainKeys := false, apart := false }
def CoerceShortSaid : Prop := coerceShortRow.holds Try.pinned (OpenSpec.ofChange coerceShortSpec)

/-- ITS FALSE NEIGHBOUR: 'it returns false'. Refute it at one input. -/
def coerceShortWrong : ChangeSpec := { name := "coerceShort", fn := fun _ => fun
  | [d1, d2, d3, d4, d5] => { results := [.lit (.bool false)], args := [d1, d2, d3, d4, d5] }
  | _ => none }
def CoerceShortWrongFalsely : Prop := coerceShortRow.holds Try.pinned (OpenSpec.ofChange coerceShortWrong)

/-- 'chaperonlaw16.CoerceShrinks': WHATEVER THE INPUT: true; the input reads as it did. -/
def coerceShrinksSpec : ChangeSpec := { name := "coerceShrinks", fn := fun _ => fun
  | [d1, d2, d3, d4, d5, d6] => { results := [.lit (.bool true)], args := [d1, d2, d3, d4, d5, d6] }
  | _ => none }
def coerceShrinksRow : OpenClaim := { program := "ytinkbljjpafadaa", sum := "c37a7b4b1e0d2b80863c557107f8bf8ac8b7597139ebeee340aed793e9759800", func := "chaperon/chaperonlaw16.CoerceShrinks", spec := "coerceShrinks", unfollowed := true, recurses := true, plainKeys := false, apart := false }
def CoerceShrinksSaid : Prop := coerceShrinksRow.holds Try.pinned (OpenSpec.ofChange coerceShrinksSpec)

/-- ITS FALSE NEIGHBOUR: 'it returns false'. Refute it at one input. -/
def coerceShrinksWrong : ChangeSpec := { name := "coerceShrinks", fn := fun _ => fun
  | [d1, d2, d3, d4, d5, d6] => { results := [.lit (.bool false)], args := [d1, d2, d3, d4, d5, d6] }
  | _ => none }
def CoerceShrinksWrongFalsely : Prop := coerceShrinksRow.holds Try.pinned (OpenSpec.ofChange coerceShrinksWrong)

/- THE SECOND FORM. 'bulk': how many values and letters a reading holds, each counted each time it is reached (what is shared counts as often as it is met; a slice's spare places count too). A statement '..UptoSaid' is the law's where the arguments, and the package variables that the reading takes, are together of bulk at most 1048576: NARROWER than '..Said'. Prove '..Said' where nothing that the law and all that it calls make is longer than what came in: it says more and counts as full. Else prove '..UptoSaid'. A law counts once. -/
mutual
def uptoBulk {H : Type} : DataW H → Nat
  | .lit (.string bytes) => bytes.length + 1
  | .lit _ => 1
  | .nil => 1
  | .ptr d => uptoBulk d + 1
  | .slice elems spare => uptoBulkAll elems + uptoBulkAll spare + 1
  | .agg parts => uptoBulkAll parts + 1
  | .iface _ d => uptoBulk d + 1
  | .map entries => uptoBulkEntries entries + 1
  | .held _ => 1
def uptoBulkAll {H : Type} : List (DataW H) → Nat
  | [] => 0
  | d :: r => uptoBulk d + uptoBulkAll r
def uptoBulkEntries {H : Type} : List (Lit × DataW H) → Nat
  | [] => 0
  | x :: r => uptoBulkEntry x + uptoBulkEntries r
def uptoBulkEntry {H : Type} : Lit × DataW H → Nat
  | (.string bytes, d) => bytes.length + uptoBulk d + 1
  | (_, d) => uptoBulk d + 1
 end
def uptoSmall : (H : Type) → List (DataW H) → Bool := fun _ ds => decide (uptoBulkAll ds ≤ 1048576)
def OpenSpec.upto (s : _root_.Go.ChangeSpec) : _root_.Go.OpenSpec := { _root_.Go.OpenSpec.ofChange s with cond := some uptoSmall }

/-- 'chaperonlaw16.CoerceKnown', WHERE WHAT IT READS IS OF BULK AT MOST 1048576: true; the input reads as it did. -/
def coerceKnownUptoRow : OpenClaim := { program := "ytinkbljjpafadaa", sum := "c37a7b4b1e0d2b80863c557107f8bf8ac8b7597139ebeee340aed793e9759800", func := "chaperon/chaperonlaw16.CoerceKnown", spec := "coerceKnown", unfollowed := true, recurses := true, plainKeys := false, apart := false, narrowed := true }
def CoerceKnownUptoSaid : Prop := coerceKnownUptoRow.holds Try.pinned (OpenSpec.upto coerceKnownSpec)

/-- 'chaperonlaw16.CoerceShort', WHERE WHAT IT READS IS OF BULK AT MOST 1048576: true; the input reads as it did. -/
def coerceShortUptoRow : OpenClaim := { program := "ytinkbljjpafadaa", sum := "c37a7b4b1e0d2b80863c557107f8bf8ac8b7597139ebeee340aed793e9759800", func := "chaperon/chaperonlaw16.CoerceShort", spec := "coerceShort", unfollowed := true, recurses := true, plainKeys := false, apart := false, narrowed := true }
def CoerceShortUptoSaid : Prop := coerceShortUptoRow.holds Try.pinned (OpenSpec.upto coerceShortSpec)

/-- 'chaperonlaw16.CoerceShrinks', WHERE WHAT IT READS IS OF BULK AT MOST 1048576: true; the input reads as it did. -/
def coerceShrinksUptoRow : OpenClaim := { program := "ytinkbljjpafadaa", sum := "c37a7b4b1e0d2b80863c557107f8bf8ac8b7597139ebeee340aed793e9759800", func := "chaperon/chaperonlaw16.CoerceShrinks", spec := "coerceShrinks", unfollowed := true, recurses := true, plainKeys := false, apart := false, narrowed := true }
def CoerceShrinksUptoSaid : Prop := coerceShrinksUptoRow.holds Try.pinned (OpenSpec.upto coerceShrinksSpec)

end Rows
end Go.Proofs.Ytinkbljjpafadaa
