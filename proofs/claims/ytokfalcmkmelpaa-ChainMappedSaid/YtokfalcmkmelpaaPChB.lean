/- chain: Merge and Add tell norms. -/
import Derived.Test.YtokfalcmkmelpaaPCh
import Derived.Test.YtokfalcmkmelpaaPAllx14
namespace Go.Proofs.Ytokfalcmkmelpaa.Pure
open Go.RowKit Go.Proofs.Ytokfalcmkmelpaa.PAll Go.Proofs.YtokfalcmkmelpaaW.PrintWords Go.Proofs.YtokfalcmkmelpaaW.PrintLast Go.Proofs.YtokfalcmkmelpaaHChain
set_option linter.unusedSimpArgs false
set_option linter.unusedVariables false
theorem merge_is (l m : List Lr) (h : l.length + m.length < 4294967296) : chain_Merge.f l m = some (norm fL (l ++ m)) := by
  unfold chain_Merge.f
  have e : api_Layer_39.f [l, m] = some (l ++ m) := by
    unfold api_Layer_39.f
    rw [if_pos (by simp; omega)]
    simp
  rw [e, Option.bind_some, Norm_is _ (by simp; omega)]
  rfl
theorem add_is (l : List Lr) (x : Lr) (h : l.length < 4294967290) : chain_Add.f l x.f0 x.f1 x.f2 = some (norm fL (l ++ [x])) := by
  unfold chain_Add.f
  rw [merge_is l [x] (by simp; omega)]
  rfl
end Go.Proofs.Ytokfalcmkmelpaa.Pure
