/- chain: turned chains, who is behind. -/
import Derived.Test.YtokfalcmkmelpaaPCh
import Derived.Test.YtokfalcmkmelpaaEv
import Derived.Test.YtokfalcmkmelpaaPAllx25
import Derived.Test.YtokfalcmkmelpaaPAllx26
namespace Go.Proofs.Ytokfalcmkmelpaa.Pure
open Go.RowKit Go.Proofs.Ytokfalcmkmelpaa.PAll Go.Proofs.YtokfalcmkmelpaaW.PrintWords Go.Proofs.YtokfalcmkmelpaaW.PrintLast Go.Proofs.YtokfalcmkmelpaaHChain Go.Proofs.YtokfalcmkmelpaaEv
set_option linter.unusedSimpArgs false
set_option linter.unusedVariables false
theorem turned_l (l : List Lr) (hl : l.length < 4294967296) : ∀ (k i : Nat) (c : List Lr), i ≤ l.length → i < k → c = (l.drop i).reverse → chaperonlaw10_turned.l0 k l c (wrap64 ((i : Int) - 1)) = some l.reverse
  | 0, i, c, h1, h2, hc => by omega
  | k + 1, i, c, h1, h2, hc => by
    have hw : wrap64 ((i : Int) - 1) = (i : Int) - 1 := by unfold wrap64; omega
    rw [chaperonlaw10_turned.l0, hw]
    by_cases h : 0 < i
    · have he : (i : Int) - 1 = ((i - 1 : Nat) : Int) := by omega
      rw [if_pos (by omega), he]
      have hlen : c.length < 4398046511104 := by rw [hc]; simp; omega
      rw [if_pos (by omega), if_pos (by omega), if_pos hlen, rdT l (i - 1) (by omega)]
      refine turned_l l hl k (i - 1) _ (by omega) (by omega) ?_
      rw [hc, List.drop_eq_getElem_cons (show i - 1 < l.length by omega), List.reverse_cons, show i - 1 + 1 = i by omega]
    · have : i = 0 := by omega
      subst this
      rw [if_neg (by omega), hc]
      rfl
theorem turned (l : List Lr) (hl : l.length < 4294967296) (k : Nat) (hk : l.length < k) : chaperonlaw10_turned.f k l = some l.reverse := by
  unfold chaperonlaw10_turned.f
  exact turned_l l hl k l.length [] (Nat.le_refl _) hk (by simp)
/-- The label of the first of one letter at or behind the first of another. -/
def beh (a b : Letter) : Bool → List Lr → Int
  | _, [] => 0
  | s, x :: r => if (s || decide (fL x = a)) && decide (fL x = b) then x.f2 else beh a b (s || decide (fL x = a)) r
theorem beh_l (l : List Lr) (hl : l.length < 4294967296) (a0 : Bool) (a1 : ByteArray) (a2 : Int) (b0 : Bool) (b1 : ByteArray) (b2 : Int) : ∀ (k i : Nat) (s : Bool), i ≤ l.length → l.length < k + i →
    chaperonlaw10_behind.l0 k l s (i : Int) a0 a1 a2 b0 b1 b2 = some (beh (a0, a1) (b0, b1) s (l.drop i))
  | 0, i, s, h1, h2 => by omega
  | k + 1, i, s, h1, h2 => by
    rw [chaperonlaw10_behind.l0]
    by_cases h : i < l.length
    · rw [if_pos (by omega), rdT l i h, w1 h (by omega), List.drop_eq_getElem_cons h]
      have ih := fun s => beh_l l hl a0 a1 a2 b0 b1 b2 k (i + 1) s h (by omega)
      simp only [beh]
      have h0 : (0 : Int) ≤ (i : Int) := by omega
      generalize l[i] = x at *
      generalize ((i + 1 : Nat) : Int) = j at *
      obtain ⟨x0, x1, x2⟩ := x
      simp only [fL, toL, beq_iff_eq, Prod.mk.injEq]
      have e1 : ∀ (p q : Prop) [Decidable p] [Decidable q], (decide (p ∧ q) : Bool) = (decide p && decide q) := fun p q _ _ => by by_cases hp : p <;> by_cases hq : q <;> simp [hp, hq]
      simp only [h0, if_true, e1]
      cases s
      · simp only [Bool.false_eq_true, if_false, Bool.false_or]
        by_cases e1 : x0 = a0
        · by_cases e2 : x1 = a1
          · rw [if_pos e1, if_pos e2]
            simp only [e1, e2, ih, beq_self_eq_true, decide_true, Bool.true_and, if_true]
            by_cases e3 : a0 = b0
            · by_cases e4 : a1 = b1
              · simp [e3, e4]
              · simp [e3, e4]
            · simp [e3]
          · have e5 : (x1.toList == a1.toList) = false := by
              rw [beq_eq_false_iff_ne]; exact fun h => e2 (toL.1 h)
            rw [if_pos e1, if_neg e2]
            simp [e1, e2, e5, ih]
        · rw [if_neg e1]
          simp [e1, ih]
      · simp only [Bool.true_or, Bool.true_and, if_true, ih]
        by_cases e3 : x0 = b0
        · by_cases e4 : x1 = b1
          · simp [e3, e4]
          · simp [e3, e4]
        · simp [e3]
    · rw [if_neg (by omega), List.drop_eq_nil_of_le (by omega)]
      rfl
theorem behind (l : List Lr) (hl : l.length < 4294967296) (a0 : Bool) (a1 : ByteArray) (a2 : Int) (b0 : Bool) (b1 : ByteArray) (b2 : Int) (k : Nat) (hk : l.length < k) :
    chaperonlaw10_behind.f k l a0 a1 a2 b0 b1 b2 = some (beh (a0, a1) (b0, b1) false l) := by
  unfold chaperonlaw10_behind.f
  exact beh_l l hl a0 a1 a2 b0 b1 b2 k 0 false (by omega) (by omega)
end Go.Proofs.Ytokfalcmkmelpaa.Pure
