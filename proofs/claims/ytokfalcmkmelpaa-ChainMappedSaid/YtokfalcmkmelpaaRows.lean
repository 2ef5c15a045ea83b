/-
  No cell of these rows narrows 'for every input' (looked for: loops, veiled, ifaces, maps, wideKeys, modest, calm, conditions, laid).
  DERIVED. THE GIVEN ROWS OF THIS SEAT. 6 by the template 'for every input the law returns true; each argument reads behind the call as it read before'; 0 by the template 'total and deterministic' (their statements: YtokfalcmkmelpaaTotals.lean).
  GIVEN WITH THE SEED: the statements are not yours to turn. If you find one false, say at which input.
  Laid BY PROGRAM, IN A SANDBOX (cutbox-rows.mjs): the forced cells as the released guide's own fill.sh prints them over the translation 460915d96d6516f4… (all of the seat's roots in one cut). By AI agents, Wed Nov 11 2026. No macro, syntax, notation, axiom, sorry.
-/
import Derived.Test.YtokfalcmkmelpaaChecked
import GoSem.Claim
import GoSem.ClaimJoined
import GoSem.ClaimMapViews
import Derived.JoinedTies
import Derived.KernelRfl
namespace Go.Proofs.Ytokfalcmkmelpaa
/- THE CELL 'sum', in the pinned program and in every row, IS THE sha256 OF THE DUMP (.gsa) THAT YtokfalcmkmelpaaProg.lean LOADS. Nothing in Lean hashes anything: it is a label: what it is worth is what the hold of that sum in a sandbox is worth. -/
noncomputable def Try.pinned : Pinned := { name := "ytokfalcmkmelpaa", sum := "460915d96d6516f4fc8c87fc58188182821e68f13b697ffeba191464932f33d9", checked := Try.checked }
namespace Rows
def none {H : Type} : Left H := { results := [], args := [] }

/-- 'chaperonlaw10.ChainSees': WHATEVER THE INPUT: true; the input reads as it did. -/
def chainSeesSpec : ChangeSpec := { name := "chainSees", fn := fun _ => fun
  | [d1, d2, d3] => { results := [.lit (.bool true)], args := [d1, d2, d3] }
  | _ => none }
def chainSeesRow : OpenClaim := { program := "ytokfalcmkmelpaa", sum := "460915d96d6516f4fc8c87fc58188182821e68f13b697ffeba191464932f33d9", func := "chaperon/chaperonlaw10.ChainSees", spec := "chainSees", unfollowed := true, recurses := true, plainKeys := false, apart := false }
def ChainSeesSaid : Prop := chainSeesRow.holds Try.pinned (OpenSpec.ofChange chainSeesSpec)

/-- ITS FALSE NEIGHBOUR: 'it returns false'. Refute it at one input. -/
def chainSeesWrong : ChangeSpec := { name := "chainSees", fn := fun _ => fun
  | [d1, d2, d3] => { results := [.lit (.bool false)], args := [d1, d2, d3] }
  | _ => none }
def ChainSeesWrongFalsely : Prop := chainSeesRow.holds Try.pinned (OpenSpec.ofChange chainSeesWrong)

/-- 'chaperonlaw10.ChainNorms': WHATEVER THE INPUT: true; the input reads as it did. -/
def chainNormsSpec : ChangeSpec := { name := "chainNorms", fn := fun _ => fun
  | [d1, d2, d3] => { results := [.lit (.bool true)], args := [d1, d2, d3] }
  | _ => none }
def chainNormsRow : OpenClaim := { program := "ytokfalcmkmelpaa", sum := "460915d96d6516f4fc8c87fc58188182821e68f13b697ffeba191464932f33d9", func := "chaperon/chaperonlaw10.ChainNorms", spec := "chainNorms", unfollowed := true, recurses := true, plainKeys := false, apart := false }
def ChainNormsSaid : Prop := chainNormsRow.holds Try.pinned (OpenSpec.ofChange chainNormsSpec)

/-- ITS FALSE NEIGHBOUR: 'it returns false'. Refute it at one input. -/
def chainNormsWrong : ChangeSpec := { name := "chainNorms", fn := fun _ => fun
  | [d1, d2, d3] => { results := [.lit (.bool false)], args := [d1, d2, d3] }
  | _ => none }
def ChainNormsWrongFalsely : Prop := chainNormsRow.holds Try.pinned (OpenSpec.ofChange chainNormsWrong)

/-- 'chaperonlaw10.ChainKnown': WHATEVER THE INPUT: true; the input reads as it did. -/
def chainKnownSpec : ChangeSpec := { name := "chainKnown", fn := fun _ => fun
  | [] => { results := [.lit (.bool true)], args := [] }
  | _ => none }
def chainKnownRow : OpenClaim := { program := "ytokfalcmkmelpaa", sum := "460915d96d6516f4fc8c87fc58188182821e68f13b697ffeba191464932f33d9", func := "chaperon/chaperonlaw10.ChainKnown", spec := "chainKnown", unfollowed := true, recurses := true, plainKeys := false, apart := false }
def ChainKnownSaid : Prop := chainKnownRow.holds Try.pinned (OpenSpec.ofChange chainKnownSpec)

/-- ITS FALSE NEIGHBOUR: 'it returns false'. Refute it at one input. -/
def chainKnownWrong : ChangeSpec := { name := "chainKnown", fn := fun _ => fun
  | [] => { results := [.lit (.bool false)], args := [] }
  | _ => none }
def ChainKnownWrongFalsely : Prop := chainKnownRow.holds Try.pinned (OpenSpec.ofChange chainKnownWrong)

/-- 'chaperonlaw10.ChainAgain': WHATEVER THE INPUT: true; the input reads as it did. -/
def chainAgainSpec : ChangeSpec := { name := "chainAgain", fn := fun _ => fun
  | [d1, d2] => { results := [.lit (.bool true)], args := [d1, d2] }
  | _ => none }
def chainAgainRow : OpenClaim := { program := "ytokfalcmkmelpaa", sum := "460915d96d6516f4fc8c87fc58188182821e68f13b697ffeba191464932f33d9", func := "chaperon/chaperonlaw10.ChainAgain", spec := "chainAgain", unfollowed := true, recurses := true, plainKeys := false, apart := false }
def ChainAgainSaid : Prop := chainAgainRow.holds Try.pinned (OpenSpec.ofChange chainAgainSpec)

/-- ITS FALSE NEIGHBOUR: 'it returns false'. Refute it at one input. -/
def chainAgainWrong : ChangeSpec := { name := "chainAgain", fn := fun _ => fun
  | [d1, d2] => { results := [.lit (.bool false)], args := [d1, d2] }
  | _ => none }
def ChainAgainWrongFalsely : Prop := chainAgainRow.holds Try.pinned (OpenSpec.ofChange chainAgainWrong)

/-- 'chaperonlaw10.ChainFirst': WHATEVER THE INPUT: true; the input reads as it did. -/
def chainFirstSpec : ChangeSpec := { name := "chainFirst", fn := fun _ => fun
  | [d1, d2, d3] => { results := [.lit (.bool true)], args := [d1, d2, d3] }
  | _ => none }
def chainFirstRow : OpenClaim := { program := "ytokfalcmkmelpaa", sum := "460915d96d6516f4fc8c87fc58188182821e68f13b697ffeba191464932f33d9", func := "chaperon/chaperonlaw10.ChainFirst", spec := "chainFirst", unfollowed := true, recurses := true, plainKeys := false, apart := false }
def ChainFirstSaid : Prop := chainFirstRow.holds Try.pinned (OpenSpec.ofChange chainFirstSpec)

/-- ITS FALSE NEIGHBOUR: 'it returns false'. Refute it at one input. -/
def chainFirstWrong : ChangeSpec := { name := "chainFirst", fn := fun _ => fun
  | [d1, d2, d3] => { results := [.lit (.bool false)], args := [d1, d2, d3] }
  | _ => none }
def ChainFirstWrongFalsely : Prop := chainFirstRow.holds Try.pinned (OpenSpec.ofChange chainFirstWrong)

/-- 'chaperonlaw10.ChainMapped': WHATEVER THE INPUT: true; the input reads as it did. -/
def chainMappedSpec : ChangeSpec := { name := "chainMapped", fn := fun _ => fun
  | [d1, d2, d3] => { results := [.lit (.bool true)], args := [d1, d2, d3] }
  | _ => none }
def chainMappedRow : OpenClaim := { program := "ytokfalcmkmelpaa", sum := "460915d96d6516f4fc8c87fc58188182821e68f13b697ffeba191464932f33d9", func := "chaperon/chaperonlaw10.ChainMapped", spec := "chainMapped", unfollowed := true, recurses := true, plainKeys := false, apart := false }
def ChainMappedSaid : Prop := chainMappedRow.holds Try.pinned (OpenSpec.ofChange chainMappedSpec)

/-- ITS FALSE NEIGHBOUR: 'it returns false'. Refute it at one input. -/
def chainMappedWrong : ChangeSpec := { name := "chainMapped", fn := fun _ => fun
  | [d1, d2, d3] => { results := [.lit (.bool false)], args := [d1, d2, d3] }
  | _ => none }
def ChainMappedWrongFalsely : Prop := chainMappedRow.holds Try.pinned (OpenSpec.ofChange chainMappedWrong)

/- THE SECOND FORM. 'bulk': how many values and letters a reading holds, each counted each time it is reached (what is shared counts as often as it is met; a slice's spare places count too). A statement '..UptoSaid' is the law's where the arguments, and the package variables that the reading takes, are together of bulk at most 1048576: NARROWER than '..Said'. Prove '..Said' where nothing that the law and all that it calls make is longer than what came in: it says more and counts as full. Else prove '..UptoSaid'. A law counts once. -/
mutual
def uptoBulk {H : Type} : DataW H → Nat
  | .lit (.string bytes) => bytes.length + 1
  | .lit _ => 1
  | .nil => 1
  | .ptr d => uptoBulk d + 1
  | .slice elems spare => uptoBulkAll elems + uptoBulkAll spare + 1
  | .agg parts => uptoBulkAll parts + 1
  | .iface _ d => uptoBulk d + 1
  | .map entries => uptoBulkEntries entries + 1
  | .held _ => 1
def uptoBulkAll {H : Type} : List (DataW H) → Nat
  | [] => 0
  | d :: r => uptoBulk d + uptoBulkAll r
def uptoBulkEntries {H : Type} : List (Lit × DataW H) → Nat
  | [] => 0
  | x :: r => uptoBulkEntry x + uptoBulkEntries r
def uptoBulkEntry {H : Type} : Lit × DataW H → Nat
  | (.string bytes, d) => bytes.length + uptoBulk d + 1
  | (_, d) => uptoBulk d + 1
 end
def uptoSmall : (H : Type) → List (DataW H) → Bool := fun _ ds => decide (uptoBulkAll ds ≤ 1048576)
def OpenSpec.upto (s : _root_.Go.ChangeSpec) : _root_.Go.OpenSpec := { _root_.Go.OpenSpec.ofChange s with cond := some uptoSmall }

/-- 'chaperonlaw10.ChainSees', WHERE WHAT IT READS IS OF BULK AT MOST 1048576: true; the input reads as it did. -/
def chainSeesUptoRow : OpenClaim := { program := "ytokfalcmkmelpaa", sum := "460915d96d6516f4fc8c87fc58188182821e68f13b697ffeba191464932f33d9", func := "chaperon/chaperonlaw10.ChainSees", spec := "chainSees", unfollowed := true, recurses := true, plainKeys := false, apart := false, narrowed := true }
def ChainSeesUptoSaid : Prop := chainSeesUptoRow.holds Try.pinned (OpenSpec.upto chainSeesSpec)

/-- 'chaperonlaw10.ChainNorms', WHERE WHAT IT READS IS OF BULK AT MOST 1048576: true; the input reads as it did. -/
def chainNormsUptoRow : OpenClaim := { program := "ytokfalcmkmelpaa", sum := "460915d96d6516f4fc8c87fc58188182821e68f13b697ffeba191464932f33d9", func := "chaperon/chaperonlaw10.ChainNorms", spec := "chainNorms", unfollowed := true, recurses := true, plainKeys := false, apart := false, narrowed := true }
def ChainNormsUptoSaid : Prop := chainNormsUptoRow.holds Try.pinned (OpenSpec.upto chainNormsSpec)

/-- 'chaperonlaw10.ChainKnown', WHERE WHAT IT READS IS OF BULK AT MOST 1048576: true; the input reads as it did. -/
def chainKnownUptoRow : OpenClaim := { program := "ytokfalcmkmelpaa", sum := "460915d96d6516f4fc8c87fc58188182821e68f13b697ffeba191464932f33d9", func := "chaperon/chaperonlaw10.ChainKnown", spec := "chainKnown", unfollowed := true, recurses := true, plainKeys := false, apart := false, narrowed := true }
def ChainKnownUptoSaid : Prop := chainKnownUptoRow.holds Try.pinned (OpenSpec.upto chainKnownSpec)

/-- 'chaperonlaw10.ChainAgain', WHERE WHAT IT READS IS OF BULK AT MOST 1048576: true; the input reads as it did. -/
def chainAgainUptoRow : OpenClaim := { program := "ytokfalcmkmelpaa", sum := "460915d96d6516f4fc8c87fc58188182821e68f13b697ffeba191464932f33d9", func := "chaperon/chaperonlaw10.ChainAgain", spec := "chainAgain", unfollowed := true, recurses := true, plainKeys := false, apart := false, narrowed := true }
def ChainAgainUptoSaid : Prop := chainAgainUptoRow.holds Try.pinned (OpenSpec.upto chainAgainSpec)

/-- 'chaperonlaw10.ChainFirst', WHERE WHAT IT READS IS OF BULK AT MOST 1048576: true; the input reads as it did. -/
def chainFirstUptoRow : OpenClaim := { program := "ytokfalcmkmelpaa", sum := "460915d96d6516f4fc8c87fc58188182821e68f13b697ffeba191464932f33d9", func := "chaperon/chaperonlaw10.ChainFirst", spec := "chainFirst", unfollowed := true, recurses := true, plainKeys := false, apart := false, narrowed := true }
def ChainFirstUptoSaid : Prop := chainFirstUptoRow.holds Try.pinned (OpenSpec.upto chainFirstSpec)

/-- 'chaperonlaw10.ChainMapped', WHERE WHAT IT READS IS OF BULK AT MOST 1048576: true; the input reads as it did. -/
def chainMappedUptoRow : OpenClaim := { program := "ytokfalcmkmelpaa", sum := "460915d96d6516f4fc8c87fc58188182821e68f13b697ffeba191464932f33d9", func := "chaperon/chaperonlaw10.ChainMapped", spec := "chainMapped", unfollowed := true, recurses := true, plainKeys := false, apart := false, narrowed := true }
def ChainMappedUptoSaid : Prop := chainMappedUptoRow.holds Try.pinned (OpenSpec.upto chainMappedSpec)

end Rows
end Go.Proofs.Ytokfalcmkmelpaa
