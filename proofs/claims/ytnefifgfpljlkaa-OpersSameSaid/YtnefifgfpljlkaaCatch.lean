/- opers.Do's deferred function where nothing panics. -/
import Derived.Test.YtnefifgfpljlkaaAdds
import Derived.Defers
import Derived.Recover
import Derived.Deep.DeepMust
namespace Go.Proofs.YtnefifgfpljlkaaAdds
open Go.RowKit Go.Proofs.YtnefifgfpljlkaaW.PrintWords Go.Proofs.YtnefifgfpljlkaaW.PrintLast Go.Proofs.YtnefifgfpljlkaaRF Go.Proofs.YtnefifgfpljlkaaRG
set_option linter.unusedSimpArgs false
set_option linter.unusedVariables false
theorem zeroO (w : World) : (zeroValue 56).run Try.prog w = .ok (.agg #[.nilFunc, .slice none 0 0, .string ⟨#[]⟩]) w := by kernel_rfl
theorem catch_idle (p q : Addr) (w : World) :
    CallsD Try.prog 45 #[.pointer (some p), .pointer (some q)] .returning w fun e u' w' => e = .returned (.tuple #[]) ∧ u' = .returning ∧ w' = w := by
  refine callsD_of_wpS Try.func45 rfl fun c₀ cs hu => ?_
  apply wpS_seq
  apply wpS_region
  simp [wpOpsS, go_sem, recoverD, hu, Try.ntmps45, Exit.thenS]
  apply wpS_seq
  apply wpS_region
  simp [wpOpsS, go_sem, recoverD, hu, Exit.thenS]
  refine wpS_cond (t := false) (by simp [Act.eval, Array.replicate]) ?_
  simp only [Bool.false_eq_true, if_false]
  refine wpS_of_wp (wp_skip ?_)
  cases c₀
  simp_all [bodyPostS, results, Try.results45]
end Go.Proofs.YtnefifgfpljlkaaAdds
