/- A guard whose own operation was off. -/
import Derived.Test.YtokfalcmkmelpaaRG
namespace Go.Proofs.YtokfalcmkmelpaaRG
open Go.RowKit Go.Proofs.YtokfalcmkmelpaaW.PrintLast Go.Proofs.YtokfalcmkmelpaaW.PrintWords Go.Proofs.YtokfalcmkmelpaaRF
theorem off_guard {ops : Array Oper} {o : Oper} {a : Act} {g : Nat} {t : Tmp} {b : Bool} (ho : o.guard = some (g, b)) (hs : slotOf ops g = some t) (h : a.tmps[t]?.getD undef = undef) : Region.wanted o (yielded ops a.tmps) = false := by
  have hs' : (ops[g]?).bind (·.dst) = some t := hs
  have hy : yielded ops a.tmps g = none := by
    unfold yielded
    rw [hs']
    cases ht : a.tmps[t]? with
    | none => simp [ht]
    | some v => rw [ht] at h; simp only [Option.getD_some] at h; subst h; simp [ht, undef]
  simp [Region.wanted, ho, hy]
end Go.Proofs.YtokfalcmkmelpaaRG
