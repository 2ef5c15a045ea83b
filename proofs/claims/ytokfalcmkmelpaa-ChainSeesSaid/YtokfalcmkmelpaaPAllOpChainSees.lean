-- WRITTEN BY hand.py of this session, over the kit's print: a text of this seat
import Derived.Test.YtokfalcmkmelpaaPAllOp
import Derived.Test.YtokfalcmkmelpaaPAllx13
namespace Go.Proofs.Ytokfalcmkmelpaa.PAll
open Go.RowKit Go.Proofs.YtokfalcmkmelpaaW.PrintWords Go.Proofs.YtokfalcmkmelpaaW.PrintLast Go.Proofs.YtokfalcmkmelpaaOpen
set_option linter.unusedVariables false

/-- THE ONE PURE STATEMENT of chaperonlaw10_ChainSees. -/
def chaperonlaw10_ChainSees.Pure : Prop := ∀ (a0 : ByteArray) (l1 : List (S37)) (a2 : Int), a0.size ≤ maxLen → l1.length ≤ maxLen → (∀ x ∈ l1, wf37 x) → (Lit.int .i64 a2).wf = true → ∃ k, chaperonlaw10_ChainSees.f k a0 l1 a2 = some true
end Go.Proofs.Ytokfalcmkmelpaa.PAll
