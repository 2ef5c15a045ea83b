/- flow: what the functions tell, in plain Lean; the chapter's examples. -/
import Derived.Test.YtimflmgdnfpodaaPAllx23
import Derived.Test.YtimflmgdnfpodaaEv
namespace Go.Proofs.Ytimflmgdnfpodaa.Pure
open Go.RowKit Go.Proofs.Ytimflmgdnfpodaa.PAll Go.Proofs.YtimflmgdnfpodaaW.PrintWords Go.Proofs.YtimflmgdnfpodaaW.PrintLast Go.Proofs.YtimflmgdnfpodaaEv Go.Proofs.YtimflmgdnfpodaaFlow
set_option linter.unusedSimpArgs false
set_option linter.unusedVariables false
theorem sortI_id (l : List Int) (h : l.Pairwise (fun a b => a ≤ b)) : sortI l = l := by
  unfold sortI
  exact List.mergeSort_of_pairwise (h.imp (fun h => decide_eq_true h))
theorem known_reach (l : List (S40)) (h : flow_Check.f l = some (0, 0)) (h2 : flow_Reach.go l l.length 0 [0] = [0, 2]) : flow_Reach.f l = some ([0, 2], 0, 0) := by
  unfold flow_Reach.f
  rw [h]
  show some (sortI (flow_Reach.go l l.length 0 [0]), 0, 0) = _
  rw [h2, sortI_id [0, 2] (by decide)]
def lit1 : List (S40) := (chaperonlaw24_of.f 12 (⟨#[74, 50, 73, 82]⟩ : ByteArray)).getD []
theorem lit1_is : chaperonlaw24_of.f 12 (⟨#[74, 50, 73, 82]⟩ : ByteArray) = some lit1 := by kernel_rfl
theorem lit1_reach : flow_Reach.f lit1 = some ([0, 2], 0, 0) := known_reach lit1 (by kernel_rfl) (by kernel_rfl)
theorem awake12 : chaperonlaw24_awake.f 12 = some true := by kernel_rfl
theorem known12 : chaperonlaw24_FlowKnown.f 12 = some true := by
  unfold chaperonlaw24_FlowKnown.f
  rw [show chaperonlaw24_of.f 12 (⟨#[82]⟩ : ByteArray) = some ((chaperonlaw24_of.f 12 (⟨#[82]⟩ : ByteArray)).getD []) by kernel_rfl, Option.bind_some]
  rw [show flow_Next.f ((chaperonlaw24_of.f 12 (⟨#[82]⟩ : ByteArray)).getD []) 1 = some ([], 3) by kernel_rfl, Option.bind_some]
  rw [lit1_is, Option.bind_some, lit1_reach, Option.bind_some, awake12]
  kernel_rfl
theorem known : Evn (fun k => chaperonlaw24_FlowKnown.f k) true :=
  ⟨12, fun k hk => at_rounds (g := fun k => chaperonlaw24_FlowKnown.f k) (fun k => chaperonlaw24_FlowKnown.mono k) hk known12⟩
end Go.Proofs.Ytimflmgdnfpodaa.Pure
