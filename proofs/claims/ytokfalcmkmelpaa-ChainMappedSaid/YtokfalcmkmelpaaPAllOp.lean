-- WRITTEN BY hand.py of this session, over the kit's print: a text of this seat
import Derived.Test.YtokfalcmkmelpaaPAllx0
import Derived.Test.YtokfalcmkmelpaaOpen
namespace Go.Proofs.Ytokfalcmkmelpaa.PAll
open Go.RowKit Go.Proofs.YtokfalcmkmelpaaW.PrintWords Go.Proofs.YtokfalcmkmelpaaW.PrintLast Go.Proofs.YtokfalcmkmelpaaOpen
set_option linter.unusedVariables false

def wf37 (x : S37) : Prop := True ∧ x.f1.size ≤ maxLen ∧ (Lit.int .i64 x.f2).wf = true
theorem opens37 : Opens Try.prog k37 37 wf37 := opens_iso (f := fun x : S37 => (x.f0, x.f1, x.f2)) (opens_struct (total := 3) Try.underlying37 (by kernel_rfl) (fopens_cons (m := 1) rfl rfl (by kernel_rfl) (opens_bool Try.underlying4) (fopens_cons (m := 1) rfl rfl (by kernel_rfl) (opens_string Try.underlying9) (fopens_last rfl rfl (by kernel_rfl) (opens_int Try.underlying3))))) (fun v => (⟨v.1, v.2.1, v.2.2⟩ : S37)) (fun _ => rfl)
end Go.Proofs.Ytokfalcmkmelpaa.PAll
