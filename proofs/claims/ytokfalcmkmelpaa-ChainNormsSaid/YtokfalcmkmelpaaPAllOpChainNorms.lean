-- WRITTEN BY hand.py of this session, over the kit's print: a text of this seat
import Derived.Test.YtokfalcmkmelpaaPAllOp
import Derived.Test.YtokfalcmkmelpaaPAllx21
namespace Go.Proofs.Ytokfalcmkmelpaa.PAll
open Go.RowKit Go.Proofs.YtokfalcmkmelpaaW.PrintWords Go.Proofs.YtokfalcmkmelpaaW.PrintLast Go.Proofs.YtokfalcmkmelpaaOpen
set_option linter.unusedVariables false

/-- THE ONE PURE STATEMENT of chaperonlaw10_ChainNorms. -/
def chaperonlaw10_ChainNorms.Pure : Prop := ∀ (l0 : List (S37)) (l1 : List (S37)) (x2 : S37), l0.length ≤ maxLen → (∀ x ∈ l0, wf37 x) → l1.length ≤ maxLen → (∀ x ∈ l1, wf37 x) → wf37 x2 → ∃ k, chaperonlaw10_ChainNorms.f k l0 l1 x2.f0 x2.f1 x2.f2 = some true
end Go.Proofs.Ytokfalcmkmelpaa.PAll
