/- flow: maps keyed by ints. -/
import Derived.Test.YtimflmgdnfpodaaFlow3
import Derived.Test.YtimflmgdnfpodaaMp
import Derived.Test.YtimflmgdnfpodaaScope
namespace Go.Proofs.YtimflmgdnfpodaaFlow
open Go.RowKit Go.Proofs.YtimflmgdnfpodaaW.PrintWords Go.Proofs.YtimflmgdnfpodaaW.PrintLast Go.Proofs.YtimflmgdnfpodaaRF Go.Proofs.YtimflmgdnfpodaaRG Go.Proofs.YtimflmgdnfpodaaMp
set_option linter.unusedSimpArgs false
set_option linter.unusedVariables false
attribute [local go_sem] Oper.semAt_some
def ieq (a b : Int) : Bool := a == b
theorem int_law : KeyLaw Try.prog 3 (Value.int .i64) ieq where
  check := fun e a w => by kernel_rfl
  eq := fun a b w => by
    unfold Op.equal Op.maxDepth ieq
    have := Try.underlying3
    go_simp
  now := ⟨_, Try.underlying3, fun a b => by
    by_cases h : Instr.sameNow (.int .i64) (.int .i64 a) (.int .i64 b) = none
    · exact .inl h
    · right; simp [Instr.sameNow, ieq] at h ⊢⟩
  bits := fun a b h => by
    simp only [ieq, beq_iff_eq] at h
    subst h
    exact ⟨rfl, by simp [Instr.sameBits]⟩
def vmark (a : Int) : Value := .agg #[.int .i64 a]
theorem zero_mark (w : World) : (zeroValue 57).run Try.prog w = .ok (vmark 0) w := by kernel_rfl
theorem lookup_mark {w : World} {B : Nat} {L : List (Int × Int × Nat)} {c : Nat} (hB : w.heap[B]? = some (MapObj (Value.int .i64) vmark L c)) (k : Int) :
    ∃ mk, (Instr.lookup 58 (.map (some B)) (.int .i64 k) true).run Try.prog w = .ok (.tuple #[.agg #[.int .i64 mk], .bool (findIdx ieq k L 0).isSome]) w := by
  have h := lookup_ok (P := Try.prog) (T := 58) (venc := vmark) int_law Try.underlying58 zero_mark hB k
  cases hf : findIdx ieq k L 0 with
  | none => rw [hf] at h; exact ⟨0, h⟩
  | some x => rw [hf] at h; exact ⟨x.2, h⟩
theorem below_put {n : Nat} {A B : World} (h : Below n A B) {r : Nat} (hr : n ≤ r) (o : Obj) : Below n A (B.putObj r o) := ⟨h.os, h.tape, h.output, by simpa using h.size, fun k hk => (World.putObj_heap_other (fun e => by omega)).trans (h.block k hk)⟩
end Go.Proofs.YtimflmgdnfpodaaFlow
