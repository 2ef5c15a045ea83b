/- Laws over any program: a scope with two labels, one within what follows the other, to which the run jumps back. -/
import Derived.ScopeJumps
import Derived.Test.YtimflmgdnfpodaaRG
namespace Go.Proofs.YtimflmgdnfpodaaRF
open Go.RowKit
/-- As Q; by a goto to label 0: J0; to label 1: J1. -/
def jumps2 (J0 J1 : Act → World → Prop) (Q : Exit → Act → World → Prop) : Exit → Act → World → Prop
  | .goto l, a, w => (l = 0 ∧ J0 a w) ∨ (l = 1 ∧ J1 a w)
  | e, a, w => Q e a w
section
variable {P : Program} {a : Act} {w : World} {Q : Exit → Act → World → Prop}
theorem jumps2_mono {J0 J1 K0 K1 : Act → World → Prop} (h0 : ∀ a w, J0 a w → K0 a w) (h1 : ∀ a w, J1 a w → K1 a w) (e : Exit) (a : Act) (w : World) (h : jumps2 J0 J1 Q e a w) : jumps2 K0 K1 Q e a w := by
  cases e with
  | goto l => exact h.imp (fun x => ⟨x.1, h0 _ _ x.2⟩) (fun x => ⟨x.1, h1 _ _ x.2⟩)
  | normal => exact h
  | exit id => exact h
  | ret => exact h
  | panic ch => exact h
  | outgrown => exact h
theorem wp_scope_jumps2 {c r0 r1 : Code} (J0 J1 : Act → World → Prop) (μ0 μ1 : Act → World → Nat) (hf0 : findLabel c 0 = some r0) (hf1 : findLabel c 1 = some r1)
    (first : c.wp P (jumps2 J0 J1 Q) a w)
    (pass0 : ∀ a w, J0 a w → r0.wp P (jumps2 (fun a' w' => J0 a' w' ∧ μ0 a' w' < μ0 a w) (fun a' w' => J1 a' w' ∧ μ1 a' w' < μ0 a w) Q) a w)
    (pass1 : ∀ a w, J1 a w → r1.wp P (jumps2 (fun a' w' => J0 a' w' ∧ μ0 a' w' < μ1 a w) (fun a' w' => J1 a' w' ∧ μ1 a' w' < μ1 a w) Q) a w) : (Code.scope c).wp P Q a w := by
  intro b k cs
  have hg0 : gotoIn 0 (.inScope c :: k) = some (.code r0 :: .inScope c :: k) := by simp [gotoIn, hf0]
  have hg1 : gotoIn 1 (.inScope c :: k) = some (.code r1 :: .inScope c :: k) := by simp [gotoIn, hf1]
  have key : ∀ n, (∀ a w, μ0 a w = n → J0 a w → ∃ e a' w', Q e a' w' ∧ Arrives P (lone (b.at a (.code r0 :: .inScope c :: k)) cs w) b k cs e a' w') ∧
      (∀ a w, μ1 a w = n → J1 a w → ∃ e a' w', Q e a' w' ∧ Arrives P (lone (b.at a (.code r1 :: .inScope c :: k)) cs w) b k cs e a' w') := by
    intro n
    induction n using Nat.strongRecOn with
    | _ n ih =>
      constructor
      · intro a w hn hJ
        obtain ⟨e, a₁, w₁, hq, harr⟩ := pass0 a w hJ b (.inScope c :: k) cs
        cases e with
        | normal => exact ⟨.normal, a₁, w₁, hq, Steps.trans harr (.one step_inScope)⟩
        | exit id => exact ⟨.exit id, a₁, w₁, hq, fun k' hk => harr k' (by simp [exitTo, hk])⟩
        | goto l' =>
          rcases hq with ⟨rfl, hJ', hlt⟩ | ⟨rfl, hJ', hlt⟩
          · obtain ⟨e₂, a₂, w₂, hq₂, harr₂⟩ := (ih _ (by omega)).1 a₁ w₁ rfl hJ'
            exact ⟨e₂, a₂, w₂, hq₂, .of_steps (harr _ hg0) harr₂⟩
          · obtain ⟨e₂, a₂, w₂, hq₂, harr₂⟩ := (ih _ (by omega)).2 a₁ w₁ rfl hJ'
            exact ⟨e₂, a₂, w₂, hq₂, .of_steps (harr _ hg1) harr₂⟩
        | ret => exact ⟨_, a₁, w₁, hq, harr⟩
        | panic ch => exact ⟨_, a₁, w₁, hq, harr⟩
        | outgrown => exact ⟨_, a₁, w₁, hq, harr⟩
      · intro a w hn hJ
        obtain ⟨e, a₁, w₁, hq, harr⟩ := pass1 a w hJ b (.inScope c :: k) cs
        cases e with
        | normal => exact ⟨.normal, a₁, w₁, hq, Steps.trans harr (.one step_inScope)⟩
        | exit id => exact ⟨.exit id, a₁, w₁, hq, fun k' hk => harr k' (by simp [exitTo, hk])⟩
        | goto l' =>
          rcases hq with ⟨rfl, hJ', hlt⟩ | ⟨rfl, hJ', hlt⟩
          · obtain ⟨e₂, a₂, w₂, hq₂, harr₂⟩ := (ih _ (by omega)).1 a₁ w₁ rfl hJ'
            exact ⟨e₂, a₂, w₂, hq₂, .of_steps (harr _ hg0) harr₂⟩
          · obtain ⟨e₂, a₂, w₂, hq₂, harr₂⟩ := (ih _ (by omega)).2 a₁ w₁ rfl hJ'
            exact ⟨e₂, a₂, w₂, hq₂, .of_steps (harr _ hg1) harr₂⟩
        | ret => exact ⟨_, a₁, w₁, hq, harr⟩
        | panic ch => exact ⟨_, a₁, w₁, hq, harr⟩
        | outgrown => exact ⟨_, a₁, w₁, hq, harr⟩
  obtain ⟨e, a₁, w₁, hq, harr⟩ := first b (.inScope c :: k) cs
  cases e with
  | normal => exact ⟨.normal, a₁, w₁, hq, .head step_scope (Steps.trans harr (.one step_inScope))⟩
  | exit id => exact ⟨.exit id, a₁, w₁, hq, fun k' hk => .head step_scope (harr k' (by simp [exitTo, hk]))⟩
  | goto l' =>
    rcases hq with ⟨rfl, hJ'⟩ | ⟨rfl, hJ'⟩
    · obtain ⟨e₂, a₂, w₂, hq₂, harr₂⟩ := (key _).1 a₁ w₁ rfl hJ'
      exact ⟨e₂, a₂, w₂, hq₂, .of_steps (.head step_scope (harr _ hg0)) harr₂⟩
    · obtain ⟨e₂, a₂, w₂, hq₂, harr₂⟩ := (key _).2 a₁ w₁ rfl hJ'
      exact ⟨e₂, a₂, w₂, hq₂, .of_steps (.head step_scope (harr _ hg1)) harr₂⟩
  | ret => exact ⟨_, a₁, w₁, hq, .of_steps (.one step_scope) harr⟩
  | panic ch => exact ⟨_, a₁, w₁, hq, .of_steps (.one step_scope) harr⟩
  | outgrown => exact ⟨_, a₁, w₁, hq, .of_steps (.one step_scope) harr⟩
/-- Where label 1 stands in what follows label 0, and both are come to from above, too: each stretch is walked once. -/
theorem wp_scope_two {c y z : Code} (J0 J1 : Act → World → Prop) (μ0 μ1 : Act → World → Nat) (hf0 : findLabel c 0 = some (Code.skip.seq (y.seq ((Code.label 1).seq z)))) (hf1 : findLabel c 1 = some (Code.skip.seq z))
    (first : (∀ a w, J0 a w → (y.seq ((Code.label 1).seq z)).wp P (jumps2 J0 J1 Q) a w) → c.wp P (jumps2 J0 J1 Q) a w)
    (pass0 : ∀ a w, J0 a w → y.wp P (Exit.then (fun a' w' => J1 a' w' ∧ μ1 a' w' < μ0 a w) (fun _ _ _ => False)) a w)
    (pass1 : ∀ a w, J1 a w → z.wp P (jumps2 (fun a' w' => J0 a' w' ∧ μ0 a' w' < μ1 a w) (fun a' w' => J1 a' w' ∧ μ1 a' w' < μ1 a w) Q) a w) : (Code.scope c).wp P Q a w := by
  have tail : ∀ a w, J0 a w → y.wp P (Exit.then (((Code.label 1).seq z).wp P (jumps2 (fun a' w' => J0 a' w' ∧ μ0 a' w' < μ0 a w) (fun a' w' => J1 a' w' ∧ μ1 a' w' < μ0 a w) Q)) (jumps2 (fun a' w' => J0 a' w' ∧ μ0 a' w' < μ0 a w) (fun a' w' => J1 a' w' ∧ μ1 a' w' < μ0 a w) Q)) a w := fun a w hJ => by
    refine wp_mono (pass0 a w hJ) (fun e a1 w1 h => ?_)
    cases e with
    | normal => exact wp_seq (wp_label (wp_mono (pass1 a1 w1 h.1) (fun e a2 w2 h2 => jumps2_mono (fun _ _ x => ⟨x.1, Nat.lt_trans x.2 h.2⟩) (fun _ _ x => ⟨x.1, Nat.lt_trans x.2 h.2⟩) e a2 w2 h2)))
    | exit id => exact h.elim
    | goto l => exact h.elim
    | ret => exact h.elim
    | panic ch => exact h.elim
    | outgrown => exact h.elim
  refine wp_scope_jumps2 J0 J1 μ0 μ1 hf0 hf1 (first fun a w hJ => ?_) (fun a w hJ => ?_) (fun a w hJ => ?_)
  · exact wp_mono (wp_seq (tail a w hJ)) (fun e a2 w2 h2 => jumps2_mono (fun _ _ x => x.1) (fun _ _ x => x.1) e a2 w2 h2)
  · exact wp_seq (wp_skip (wp_seq (tail a w hJ)))
  · exact wp_seq (wp_skip (pass1 a w hJ))
end
end Go.Proofs.YtimflmgdnfpodaaRF
