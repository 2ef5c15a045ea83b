-- WRITTEN BY hand.py of this session, over the kit's print: a text of this seat
import Derived.Test.YtimflmgdnfpodaaPAllx0
import Derived.Test.YtimflmgdnfpodaaOpen
namespace Go.Proofs.Ytimflmgdnfpodaa.PAll
open Go.RowKit Go.Proofs.YtimflmgdnfpodaaW.PrintWords Go.Proofs.YtimflmgdnfpodaaW.PrintLast Go.Proofs.YtimflmgdnfpodaaOpen
set_option linter.unusedVariables false

def wf40 (x : S40) : Prop := (Lit.int .i64 x.f0).wf = true ∧ (Lit.int .i64 x.f1).wf = true ∧ (Lit.int .i64 x.f2).wf = true ∧ (Lit.int .i64 x.f3).wf = true
theorem opens40 : Opens Try.prog k40 40 wf40 := opens_iso (f := fun x : S40 => (x.f0, x.f1, x.f2, x.f3)) (opens_struct (total := 4) Try.underlying40 (by kernel_rfl) (fopens_cons (m := 1) rfl rfl (by kernel_rfl) (opens_int Try.underlying3) (fopens_cons (m := 1) rfl rfl (by kernel_rfl) (opens_int Try.underlying3) (fopens_cons (m := 1) rfl rfl (by kernel_rfl) (opens_int Try.underlying3) (fopens_last rfl rfl (by kernel_rfl) (opens_int Try.underlying3)))))) (fun v => (⟨v.1, v.2.1, v.2.2.1, v.2.2.2⟩ : S40)) (fun _ => rfl)
end Go.Proofs.Ytimflmgdnfpodaa.PAll
