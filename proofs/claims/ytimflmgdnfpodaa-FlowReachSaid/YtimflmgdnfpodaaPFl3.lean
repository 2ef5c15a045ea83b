/- flow.Loops, in plain Lean. -/
import Derived.Test.YtimflmgdnfpodaaPAllx22
import Derived.Test.YtimflmgdnfpodaaPFl
namespace Go.Proofs.Ytimflmgdnfpodaa.Pure
open Go.RowKit Go.Proofs.Ytimflmgdnfpodaa.PAll Go.Proofs.YtimflmgdnfpodaaW.PrintWords Go.Proofs.YtimflmgdnfpodaaW.PrintLast Go.Proofs.YtimflmgdnfpodaaEv Go.Proofs.YtimflmgdnfpodaaFlow Go.Proofs.YtimflmgdnfpodaaMp
set_option linter.unusedSimpArgs false
set_option linter.unusedVariables false
/-- The loops among the first i places. -/
def lp (l : List Ins) : Nat → List Int
  | 0 => []
  | i + 1 => lp l i ++ if (isJ (insAt l i) && decide ((insAt l i).f1 ≤ (i : Int))) = true then [(i : Int)] else []
theorem lp_len (l : List Ins) : ∀ i, (lp l i).length ≤ i
  | 0 => by simp [lp]
  | i + 1 => by
    have := lp_len l i
    unfold lp
    split <;> simp <;> omega
theorem lp_mem (l : List Ins) (x : Int) : ∀ i, x ∈ lp l i ↔ ∃ j : Nat, j < i ∧ x = (j : Int) ∧ isJ (insAt l j) = true ∧ (insAt l j).f1 ≤ (j : Int)
  | 0 => by simp [lp]
  | i + 1 => by
    unfold lp
    rw [List.mem_append, lp_mem l x i]
    constructor
    · rintro (⟨j, hj, h⟩ | h)
      · exact ⟨j, by omega, h⟩
      · split at h
        · rename_i hc
          rw [List.mem_singleton] at h
          have := Bool.and_eq_true_iff.1 hc
          exact ⟨i, by omega, h, this.1, of_decide_eq_true this.2⟩
        · cases h
    · rintro ⟨j, hj, hx, h1, h2⟩
      by_cases e : j = i
      · subst e
        right
        rw [if_pos (Bool.and_eq_true_iff.2 ⟨h1, decide_eq_true h2⟩)]
        simp [hx]
      · exact .inl ⟨j, by omega, hx, h1, h2⟩
theorem jumps_is (x : Ins) : flow_jumps.f x.f0 x.f1 x.f2 x.f3 = some (isJ x) := by
  unfold flow_jumps.f isJ
  by_cases h : x.f0 = 11
  · rw [if_pos h]; simp [h]
  · rw [if_neg h]; simp [h]
theorem loops_run (l : List Ins) (hl : l.length ≤ 20000) (e a : Int) : ∀ (d i : Nat), l.length - i ≤ d → i ≤ l.length → Evn (fun k => flow_Loops.l0 k (lp l i) l (l.length : Int) (i : Int) e a) (lp l l.length, e, a) := by
  intro d
  induction d with
  | zero =>
    intro i h1 h2
    obtain rfl : i = l.length := by omega
    exact Evn.succ (Evn.neg (by omega) (Evn.ret _))
  | succ d ih =>
    intro i h1 h2
    by_cases hlt : i < l.length
    · have hnx := ih (i + 1) (by omega) (by omega)
      have hw : wrap64 ((i : Int) + 1) = ((i + 1 : Nat) : Int) := by unfold wrap64; omega
      have hll := lp_len l i
      rw [← hw] at hnx
      refine Evn.succ (Evn.pos (by omega) (Evn.pos (by omega) (Evn.pos (by omega) (Evn.cbind (jumps_is (insAt l i)) ?_))))
      by_cases hj : isJ (insAt l i) = true
      · refine Evn.pos hj ?_
        by_cases hA : (insAt l i).f1 ≤ (i : Int)
        · refine Evn.pos hA (Evn.pos (by omega) ?_)
          have : lp l (i + 1) = lp l i ++ [(i : Int)] := by
            show _ ++ (if _ then _ else _) = _
            rw [if_pos (Bool.and_eq_true_iff.2 ⟨hj, decide_eq_true hA⟩)]
          rw [this] at hnx
          exact hnx
        · refine Evn.neg hA ?_
          have : lp l (i + 1) = lp l i := by
            show _ ++ (if _ then _ else _) = _
            rw [if_neg (fun h => hA (of_decide_eq_true (Bool.and_eq_true_iff.1 h).2)), List.append_nil]
          rw [this] at hnx
          exact hnx
      · refine Evn.neg hj ?_
        have : lp l (i + 1) = lp l i := by
          show _ ++ (if _ then _ else _) = _
          rw [if_neg (fun h => hj (Bool.and_eq_true_iff.1 h).1), List.append_nil]
        rw [this] at hnx
        exact hnx
    · obtain rfl : i = l.length := by omega
      exact Evn.succ (Evn.neg (by omega) (Evn.ret _))
theorem loops_ok {l : List Ins} (h : flow_Check.f l = some (0, 0)) : Evn (fun k => flow_Loops.f k l) (lp l l.length, 0, 0) := by
  obtain ⟨hpos, hlen, _⟩ := flow_Parts.ok l h
  refine Evn.cbind h (Evn.neg (by simp) ?_)
  exact loops_run l hlen 0 0 l.length 0 (by omega) (by omega)
theorem loops_bad {l : List Ins} {e a : Int} (h : flow_Check.f l = some (e, a)) (he : e = 12 ∨ e = 16) : Evn (fun k => flow_Loops.f k l) ([], e, a) :=
  Evn.cbind h (Evn.pos (by rcases he with rfl | rfl <;> simp) (Evn.ret _))
theorem to_len (l : List Ins) (p : Nat) (hp : p < 4611686018427387904) : (flow_Reach.to l (p : Int)).length ≤ 2 := by
  rw [to_is l p hp]
  split
  · simp
  · split
    · split <;> simp
    · split <;> simp
end Go.Proofs.Ytimflmgdnfpodaa.Pure
