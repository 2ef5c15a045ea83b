/- chain: chains by numbers; the examples. -/
import Derived.Test.YtokfalcmkmelpaaPCh
import Derived.Test.YtokfalcmkmelpaaEv
import Derived.Test.YtokfalcmkmelpaaPAllx23
import Derived.Test.YtokfalcmkmelpaaPAllx24
namespace Go.Proofs.Ytokfalcmkmelpaa.Pure
open Go.RowKit Go.Proofs.Ytokfalcmkmelpaa.PAll Go.Proofs.YtokfalcmkmelpaaW.PrintWords Go.Proofs.YtokfalcmkmelpaaW.PrintLast Go.Proofs.YtokfalcmkmelpaaHChain Go.Proofs.YtokfalcmkmelpaaEv
set_option linter.unusedSimpArgs false
set_option linter.unusedVariables false
theorem pick8 (x : Int) (n : Int) (hn : 0 < n) (hn2 : n < 4294967296) : ∃ y, chaperonkit_Pick.f x n = some y ∧ 0 ≤ y ∧ y < n := by
  unfold chaperonkit_Pick.f
  rw [if_neg (by omega), if_neg (by omega)]
  have h1 := Int.tmod_lt_of_pos x hn
  have h2 : -n < Int.tmod x n := by
    have := Int.lt_tmod_of_pos x hn
    omega
  split
  · exact ⟨_, rfl, by unfold wrap64; omega, by unfold wrap64; omega⟩
  · exact ⟨_, rfl, by omega, h1⟩
theorem made_l (l : List Int) (hl : l.length < 4294967296) : ∀ (k i : Nat) (c : List Lr), i ≤ l.length → l.length < k + i → c.length = i → ∃ c', chaperonlaw10_made.l0 k l c (i : Int) = some c' ∧ c'.length = l.length
  | 0, i, c, h1, h2, _ => by omega
  | k + 1, i, c, h1, h2, hc => by
    rw [chaperonlaw10_made.l0]
    by_cases h : i < l.length
    · obtain ⟨y, hy, hy0, hy1⟩ := pick8 (rd l (i : Int)) 8 (by omega) (by omega)
      have ht : wrap64 (Int.tdiv y 2) = Int.tdiv y 2 := by
        have : Int.tdiv y 2 = y / 2 := Int.tdiv_eq_ediv_of_nonneg hy0
        unfold wrap64; omega
      have hq : Int.tdiv y 2 = y / 2 := Int.tdiv_eq_ediv_of_nonneg hy0
      rw [if_pos (by omega), if_pos (by omega), hy]
      simp only [Option.bind_some]
      rw [ht, hq, if_pos (by omega), if_pos (by simp; omega), if_pos (by omega), w1 h (by omega)]
      exact made_l l hl k (i + 1) _ h (by omega) (by simp [hc])
    · rw [if_neg (by omega)]
      exact ⟨c, rfl, by omega⟩
theorem made (l : List Int) (hl : l.length < 4294967296) (k : Nat) (hk : l.length < k) : ∃ c, chaperonlaw10_made.f k l = some c ∧ c.length = l.length := by
  unfold chaperonlaw10_made.f
  exact made_l l hl k 0 [] (by omega) (by omega) rfl
theorem known (k : Nat) (h : 12 ≤ k) : chaperonlaw10_ChainKnown.f k = some true :=
  at_rounds (g := chaperonlaw10_ChainKnown.f) (fun k => chaperonlaw10_ChainKnown.mono k) h (by kernel_rfl)
theorem known_ev : Evn chaperonlaw10_ChainKnown.f true := ⟨12, fun k h => known k h⟩
end Go.Proofs.Ytokfalcmkmelpaa.Pure
