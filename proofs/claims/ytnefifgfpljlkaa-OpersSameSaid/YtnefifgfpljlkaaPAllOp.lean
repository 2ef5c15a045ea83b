-- WRITTEN BY hand.py of this session, over the kit's print: a text of this seat
import Derived.Test.YtnefifgfpljlkaaPAllx0
import Derived.Test.YtnefifgfpljlkaaOpen
namespace Go.Proofs.Ytnefifgfpljlkaa.PAll
open Go.RowKit Go.Proofs.YtnefifgfpljlkaaW.PrintWords Go.Proofs.YtnefifgfpljlkaaW.PrintLast Go.Proofs.YtnefifgfpljlkaaOpen
set_option linter.unusedVariables false

def wf45 (x : S45) : Prop := True ∧ x.f1.size ≤ maxLen ∧ (Lit.int .i64 x.f2).wf = true
theorem opens45 : Opens Try.prog k45 45 wf45 := opens_iso (f := fun x : S45 => (x.f0, x.f1, x.f2)) (opens_struct (total := 3) Try.underlying45 (by kernel_rfl) (fopens_cons (m := 1) rfl rfl (by kernel_rfl) (opens_bool Try.underlying4) (fopens_cons (m := 1) rfl rfl (by kernel_rfl) (opens_string Try.underlying9) (fopens_last rfl rfl (by kernel_rfl) (opens_int Try.underlying3))))) (fun v => (⟨v.1, v.2.1, v.2.2⟩ : S45)) (fun _ => rfl)
def wf25 (x : S25) : Prop := (Lit.int .i64 x.f0).wf = true ∧ (Lit.int .i64 x.f1).wf = true ∧ (Lit.int .u64 x.f2).wf = true ∧ x.f3.size ≤ maxLen ∧ (x.f4.length ≤ maxLen ∧ ∀ yxf4 ∈ x.f4, wf45 yxf4)
theorem opens25 : Opens Try.prog k25 25 wf25 := opens_iso (f := fun x : S25 => (x.f0, x.f1, x.f2, x.f3, x.f4)) (opens_struct (total := 5) Try.underlying25 (by kernel_rfl) (fopens_cons (m := 1) rfl rfl (by kernel_rfl) (opens_int Try.underlying3) (fopens_cons (m := 1) rfl rfl (by kernel_rfl) (opens_int Try.underlying3) (fopens_cons (m := 1) rfl rfl (by kernel_rfl) (opens_int Try.underlying22) (fopens_cons (m := 1) rfl rfl (by kernel_rfl) (opens_string Try.underlying9) (fopens_last rfl rfl (by kernel_rfl) (opens_slice Try.underlying23 (by kernel_rfl) opens45))))))) (fun v => (⟨v.1, v.2.1, v.2.2.1, v.2.2.2.1, v.2.2.2.2⟩ : S25)) (fun _ => rfl)
end Go.Proofs.Ytnefifgfpljlkaa.PAll
