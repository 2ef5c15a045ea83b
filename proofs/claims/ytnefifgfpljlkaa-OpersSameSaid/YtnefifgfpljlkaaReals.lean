/- reals: numbers with a point, by their bits. -/
import Derived.Test.YtnefifgfpljlkaaWords
import Derived.Laws.Externs
namespace Go.Proofs.YtnefifgfpljlkaaReals
open Go.RowKit Go.Proofs.YtnefifgfpljlkaaW.PrintWords Go.Proofs.YtnefifgfpljlkaaW.PrintLast Go.Proofs.YtnefifgfpljlkaaRF Go.Proofs.YtnefifgfpljlkaaRG
set_option linter.unusedSimpArgs false
set_option linter.unusedVariables false
theorem from_run (a : Int) (w : World) : (callFunc 46 #[.int .u64 a]).run Try.prog w = .ok (.value (.float .f64 a.toNat)) w := by
  rw [run_callFunc_extern Try.func46 (by kernel_rfl) (by kernel_rfl) (by kernel_rfl) (show Extern.find _ = some Extern.MathFloatBits.float64frombits by kernel_rfl)]; rfl
theorem of_calls (a : Int) (w : World) : Calls Try.prog 28 #[.int .u64 a] w fun e w' => e = .returned (.float .f64 a.toNat) ∧ w' = w := by
  have hd := from_run a
  go_enter Try.func28, Try.ntmps28
  go_wp2
  go_ret
  exact ⟨rfl, rfl⟩
def eqR (a b : Int) : Bool := FloatKind.f64.format.order a.toNat b.toNat == some Ordering.eq
theorem Equal_calls (a b : Int) (w : World) : Calls Try.prog 25 #[.int .u64 a, .int .u64 b] w fun e w' => e = .returned (.bool (eqR a b)) ∧ w' = w := by
  unfold eqR
  go_enter Try.func25, Try.ntmps25
  go_wp2_with (go_at_call 28; refine (of_calls _ _).mono ?_; rintro e w' ⟨rfl, rfl⟩)
  go_ret
  exact ⟨rfl, rfl⟩
theorem Canon_calls (a : Int) (w : World) : Calls Try.prog 10 #[.int .u64 a] w fun e w' => e = .returned (.int .u64 (if eqR a a = true then a else 9221120237041090560)) ∧ w' = w := by
  obtain ⟨q, hq⟩ : ∃ q, q = FloatKind.f64.format.order a.toNat a.toNat := ⟨_, rfl⟩
  have hE : eqR a a = (q == some Ordering.eq) := by unfold eqR; rw [hq]
  rw [hE]
  clear hE
  cases hb : (q == some Ordering.eq) with
  | true =>
    rw [if_pos rfl]
    rw [hq] at hb
    have hb2 : (FloatKind.f64.format.order a.toNat a.toNat != some Ordering.eq) = false := by unfold bne; rw [hb]; rfl
    clear hq
    go_enter Try.func10, Try.ntmps10
    go_wp2_with (go_at_call 28; refine (of_calls _ _).mono ?_; rintro e w' ⟨rfl, rfl⟩)
    go_ret
    exact ⟨rfl, rfl⟩
  | false =>
    rw [if_neg (by decide)]
    rw [hq] at hb
    have hb2 : (FloatKind.f64.format.order a.toNat a.toNat != some Ordering.eq) = true := by unfold bne; rw [hb]; rfl
    clear hq
    go_enter Try.func10, Try.ntmps10
    go_wp2_with (go_at_call 28; refine (of_calls _ _).mono ?_; rintro e w' ⟨rfl, rfl⟩)
    go_ret
    exact ⟨rfl, rfl⟩
end Go.Proofs.YtnefifgfpljlkaaReals
