/- chaperonlaw15.OpersSame tells true for all pairs of values (of longer ones: the chapter's examples alone). -/
import Derived.Test.YtnefifgfpljlkaaEv
import Derived.Test.YtnefifgfpljlkaaReals
import Derived.Test.YtnefifgfpljlkaaPAllx10
import Derived.Test.YtnefifgfpljlkaaPAllx14
import Derived.Test.YtnefifgfpljlkaaPAllx15
import Derived.Test.YtnefifgfpljlkaaPAllx16
import Derived.Test.YtnefifgfpljlkaaPAllx17
import Derived.Test.YtnefifgfpljlkaaPAllx3
import Derived.Test.YtnefifgfpljlkaaPAllx4
import Derived.Test.YtnefifgfpljlkaaPAllx5
import Derived.Test.YtnefifgfpljlkaaPAllx6
import Derived.Test.YtnefifgfpljlkaaPAllx7
import Derived.Test.YtnefifgfpljlkaaPAllx9
import Derived.Test.YtnefifgfpljlkaaPAllOpOpersSame
namespace Go.Proofs.Ytnefifgfpljlkaa.Pure
open Go.RowKit Go.Proofs.Ytnefifgfpljlkaa.PAll Go.Proofs.YtnefifgfpljlkaaW.PrintWords Go.Proofs.YtnefifgfpljlkaaW.PrintLast Go.Proofs.YtnefifgfpljlkaaEv Go.Proofs.YtnefifgfpljlkaaReals
set_option linter.unusedSimpArgs false
set_option linter.unusedVariables false
theorem datum_symm (x y : Ieee.Datum) (h : x.order y = some .eq) : y.order x = some .eq := by
  cases x <;> cases y <;> simp only [Ieee.Datum.order, reduceCtorEq] at h ⊢
  all_goals first
    | (simp only [Option.some.injEq] at h; split at h <;> cases h; done)
    | (simp only [Option.some.injEq, Std.LawfulEqCmp.compare_eq_iff_eq] at h ⊢; exact h.symm)
    | (simp only [Option.some.injEq, Std.LawfulEqCmp.compare_eq_iff_eq] at h ⊢; rw [Int.min_comm]; exact h.symm)
theorem eqR_symm (a b : Int) : eqR a b = eqR b a := by
  unfold eqR Ieee.Format.order
  rw [Bool.eq_iff_iff]
  simp only [beq_iff_eq]
  exact ⟨datum_symm _ _, datum_symm _ _⟩
theorem eqR_nan : eqR 9221120237041090560 9221120237041090560 = false := by kernel_rfl
theorem less_irr : ∀ l : List UInt8, Op.bytesLess l l = false
  | [] => rfl
  | a :: l => by simp [Op.bytesLess, less_irr l]
def eqS (s t : ByteArray) : Bool := s.toList == t.toList
theorem order_str (s t : ByteArray) : ∃ n, opers_order_string.f s t = some n ∧ (n == 0) = eqS s t := by
  unfold opers_order_string.f cmp_Compare_string.f eqS
  simp only [Option.bind_some]
  refine ⟨_, rfl, ?_⟩
  by_cases h : s.toList = t.toList
  · rw [h, less_irr]; simp
  · have : (s.toList == t.toList) = false := by simpa using h
    rw [this]
    split <;> rfl
theorem order_int (a b : Int) : ∃ n, opers_order_int.f a b = some n ∧ (n == 0) = (a == b) := by
  unfold opers_order_int.f cmp_Compare_int.f cmp_isNaN_int.f
  simp only [Option.bind_some, bne_self_eq_false, Bool.false_eq_true, if_false]
  by_cases h1 : a < b
  · rw [if_pos h1]; exact ⟨_, rfl, by simp; omega⟩
  · rw [if_neg h1]
    by_cases h2 : a > b
    · rw [if_pos h2]; exact ⟨_, rfl, by simp; omega⟩
    · rw [if_neg h2]; exact ⟨_, rfl, by simp; omega⟩
/-- Are values the same? -/
def sm3 (x y : S25) : Bool := decide (x.f0 = 5 ∨ x.f0 = 6)
def sm2 (x y : S25) : Bool := if x.f0 = 4 then eqS x.f3 y.f3 else sm3 x y
def sm1 (x y : S25) : Bool := if x.f0 = 2 then eqR x.f2 y.f2 else sm2 x y
def sm0 (x y : S25) : Bool := if x.f0 = 1 ∨ x.f0 = 3 ∨ x.f0 = 7 then x.f1 == y.f1 else sm1 x y
def sm (x y : S25) : Bool := if x.f0 = y.f0 then sm0 x y else false
theorem Same_ev (x y : S25) : Evn (fun k => opers_Same.f k x.f0 x.f1 x.f2 x.f3 x.f4 y.f0 y.f1 y.f2 y.f3 y.f4) (sm x y) := by
  by_cases h : x.f0 = y.f0
  · have e : sm x y = sm0 x y := if_pos h
    rw [e]
    refine Evn.pos h ?_
    obtain ⟨n, hn, hn0⟩ := order_int x.f1 y.f1
    obtain ⟨m, hm, hm0⟩ := order_str x.f3 y.f3
    have J : ∀ b : Bool, (b = true ↔ (x.f0 = 1 ∨ x.f0 = 3 ∨ x.f0 = 7)) → Evn (fun k => opers_Same.j0 k x.f0 b x.f0 x.f1 x.f2 x.f3 x.f4 y.f0 y.f1 y.f2 y.f3 y.f4) (sm0 x y) := fun b hb => by
      refine Evn.succ ?_
      by_cases q : x.f0 = 1 ∨ x.f0 = 3 ∨ x.f0 = 7
      · exact Evn.pos (hb.2 q) (Evn.cbind hn ((Evn.ret _).val (hn0.trans (if_pos q).symm)))
      · have e1 : sm0 x y = sm1 x y := if_neg q
        rw [e1]
        refine Evn.neg (fun e => q (hb.1 e)) ?_
        by_cases q2 : x.f0 = 2
        · exact Evn.pos q2 (Evn.cbind (a := reals_Equal.f x.f2 y.f2) rfl ((Evn.ret _).val (if_pos q2).symm))
        · have e2 : sm1 x y = sm2 x y := if_neg q2
          rw [e2]
          refine Evn.neg q2 ?_
          by_cases q4 : x.f0 = 4
          · exact Evn.pos q4 (Evn.cbind hm ((Evn.ret _).val (hm0.trans (if_pos q4).symm)))
          · have e3 : sm2 x y = sm3 x y := if_neg q4
            rw [e3]
            refine Evn.neg q4 ?_
            unfold sm3
            by_cases q5 : x.f0 = 5
            · exact Evn.pos q5 ((Evn.ret _).val (by simp [q5]))
            · exact Evn.neg q5 ((Evn.ret _).val (by by_cases q6 : x.f0 = 6 <;> simp [q5, q6]))
    by_cases q1 : x.f0 = 1
    · exact Evn.pos q1 (J _ (by simp [q1]))
    · refine Evn.neg q1 ?_
      by_cases q3 : x.f0 = 3
      · exact Evn.pos q3 (J _ (by simp [q3]))
      · exact Evn.neg q3 (J _ (by simp [q1, q3]))
  · have e : sm x y = false := if_neg h
    rw [e]
    exact Evn.neg h (Evn.ret _)
theorem sm_symm (x y : S25) : sm x y = sm y x := by
  unfold sm sm0 sm1 sm2 sm3
  by_cases h : x.f0 = y.f0
  · rw [if_pos h, if_pos h.symm, ← h, eqR_symm x.f2 y.f2]
    have e1 : (x.f1 == y.f1) = (y.f1 == x.f1) := by rw [Bool.eq_iff_iff, beq_iff_eq, beq_iff_eq]; exact ⟨Eq.symm, Eq.symm⟩
    have e2 : eqS x.f3 y.f3 = eqS y.f3 x.f3 := by unfold eqS; rw [Bool.eq_iff_iff, beq_iff_eq, beq_iff_eq]; exact ⟨Eq.symm, Eq.symm⟩
    rw [e1, e2]
  · rw [if_neg h, if_neg (fun e => h e.symm)]
theorem sm_tag {x y : S25} (h : sm x y = true) : x.f0 = y.f0 := by
  unfold sm at h
  by_cases q : x.f0 = y.f0
  · exact q
  · rw [if_neg q] at h; cases h
theorem long_l (x : S25) : ∀ (d i : Nat), d = x.f4.length - i → i ≤ x.f4.length → ∃ b, Evn (fun k => chaperonkit_LongValue.l0 k (i : Int) x.f0 x.f1 x.f2 x.f3 x.f4) b := by
  have fin : ∀ i : Int, ∃ b, Evn (fun k => chaperonkit_LongValue.j1 k i false x.f0 x.f1 x.f2 x.f3 x.f4) b := fun i => by
    by_cases h : (x.f4.length : Int) > 60
    · exact ⟨_, Evn.succ (Evn.pos h (Evn.ret _))⟩
    · exact ⟨_, Evn.succ (Evn.neg h (Evn.ret _))⟩
  intro d
  induction d with
  | zero =>
    intro i hd hi
    obtain ⟨b, hb⟩ := fin i
    exact ⟨b, Evn.succ (Evn.neg (by omega) hb)⟩
  | succ d ih =>
    intro i hd hi
    obtain ⟨b, hb⟩ := fin i
    by_cases h61 : (i : Int) < 61
    · by_cases hs : (((rd_T45 x.f4 (i : Int)).f1).size : Int) > 60
      · exact ⟨true, Evn.succ (Evn.pos (by omega) (by rw [decide_eq_true h61]; exact Evn.succ (Evn.pos (by omega) (Evn.pos hs (Evn.ret _)))))⟩
      · obtain ⟨b2, hb2⟩ := ih (i + 1) (by omega) (by omega)
        have e : wrap64 ((i : Int) + 1) = ((i + 1 : Nat) : Int) := by unfold wrap64; omega
        exact ⟨b2, Evn.succ (Evn.pos (by omega) (by rw [decide_eq_true h61]; exact Evn.succ (Evn.pos (by omega) (Evn.neg hs (by rw [e]; exact hb2)))))⟩
    · exact ⟨b, Evn.succ (Evn.pos (by omega) (by rw [decide_eq_false h61]; exact hb))⟩
theorem long_ev (x : S25) : ∃ b, Evn (fun k => chaperonkit_LongValue.f k x.f0 x.f1 x.f2 x.f3 x.f4) b := long_l x _ 0 rfl (Nat.zero_le _)
theorem awake_ev : Evn (fun k => chaperonlaw15_awake.f k) true := ⟨10, fun k h => at_rounds (g := chaperonlaw15_awake.f) (fun k => chaperonlaw15_awake.mono k) h (by kernel_rfl)⟩
theorem lit (a : Array UInt8) : (⟨a⟩ : ByteArray).toList = a.toList := by rw [Go.ByteArray.toList_eq]
theorem sameNil_ev (t n : Int) : Evn (fun k => chaperonkit_SameValue.f k t n 0 ⟨#[]⟩ [] t n 0 ⟨#[]⟩ []) true := by
  refine Evn.pos rfl (Evn.pos rfl (Evn.pos rfl (Evn.pos rfl (Evn.bind (a := true) ⟨2, fun k hk => ?_⟩ (Evn.ret _)))))
  obtain ⟨j, rfl⟩ : ∃ j, k = j + 1 := ⟨k - 1, by omega⟩
  simp [chaperonkit_SameLayers.f, chaperonkit_SameLayers.l0]
theorem eq_ev (x y : S25) : Evn (fun k => chaperonlaw15_does.f k ⟨#[61, 61]⟩ x.f0 x.f1 x.f2 x.f3 x.f4 y.f0 y.f1 y.f2 y.f3 y.f4 3 (if sm x y = true then 1 else 0) 0 ⟨#[]⟩ []) true := by
  refine Evn.bind (a := opers_Do.tv (sm x y)) (Evn.pos (lit _) (Evn.bind (Same_ev x y) (Evn.ret _))) ?_
  exact Evn.pos rfl (Evn.pos rfl (Evn.bind (sameNil_ev _ _) (Evn.ret _)))
theorem ne_ev (x y : S25) : Evn (fun k => chaperonlaw15_does.f k ⟨#[33, 61]⟩ x.f0 x.f1 x.f2 x.f3 x.f4 y.f0 y.f1 y.f2 y.f3 y.f4 3 (if (!sm x y) = true then 1 else 0) 0 ⟨#[]⟩ []) true := by
  refine Evn.bind (a := opers_Do.tv (!sm x y)) (Evn.neg (by rw [lit]; decide) (Evn.pos (lit _) (Evn.bind (Same_ev x y) (Evn.ret _)))) ?_
  exact Evn.pos rfl (Evn.pos rfl (Evn.bind (sameNil_ev _ _) (Evn.ret _)))
theorem OpersSame : chaperonlaw15_OpersSame.Pure := by
  intro x y hx hy
  refine Evn.ex (v := true) ?_
  obtain ⟨b1, hb1⟩ := long_ev x
  obtain ⟨b2, hb2⟩ := long_ev y
  refine Evn.bind awake_ev (Evn.bind hb1 ?_)
  cases b1 with
  | true => exact Evn.pos rfl (Evn.succ (Evn.ret _))
  | false =>
    refine Evn.neg (by decide) (Evn.bind hb2 ?_)
    cases b2 with
    | true => exact Evn.succ (Evn.ret _)
    | false =>
      refine Evn.succ (Evn.bind (Same_ev x y) ?_)
      have J3 : Evn (fun k => chaperonlaw15_OpersSame.j2 k true false x.f0 x.f1 x.f2 x.f3 x.f4) true := by
        refine Evn.succ ?_
        by_cases h1 : x.f0 < 1
        · refine Evn.pos h1 (Evn.succ (Evn.bind (Same_ev x x) ((Evn.ret _).val ?_)))
          unfold sm sm0 sm1 sm2 sm3
          rw [if_pos rfl, if_neg (by omega), if_neg (by omega), if_neg (by omega)]
          simp; omega
        · refine Evn.neg h1 ?_
          by_cases h7 : x.f0 > 7
          · rw [decide_eq_true h7]
            refine Evn.succ (Evn.bind (Same_ev x x) ((Evn.ret _).val ?_))
            unfold sm sm0 sm1 sm2 sm3
            rw [if_pos rfl, if_neg (by omega), if_neg (by omega), if_neg (by omega)]
            simp; omega
          · rw [decide_eq_false h7]
            refine Evn.succ (Evn.bind (Same_ev x x) ?_)
            by_cases h2 : x.f0 = 2
            · refine Evn.pos h2 (Evn.cbind (a := reals_Canon.f x.f2) rfl ((Evn.ret _).val ?_))
              have e : sm x x = eqR x.f2 x.f2 := by
                unfold sm sm0 sm1
                rw [if_pos rfl, if_neg (by omega), if_pos h2]
              rw [e]
              cases hq : eqR x.f2 x.f2 with
              | true =>
                rw [if_pos rfl]
                have : x.f2 ≠ 9221120237041090560 := fun e => by rw [e, eqR_nan] at hq; cases hq
                simp [this]
              | false => simp
            · refine Evn.neg h2 ((Evn.ret _).val ?_)
              unfold sm sm0 sm1 sm2 sm3
              rw [if_pos rfl]
              by_cases q : x.f0 = 1 ∨ x.f0 = 3 ∨ x.f0 = 7
              · rw [if_pos q]; simp
              · rw [if_neg q, if_neg h2]
                by_cases q4 : x.f0 = 4
                · rw [if_pos q4]; unfold eqS; simp
                · rw [if_neg q4]; simp; omega
      have E1 := eq_ev x y
      have E2 := ne_ev x y
      have S2 := Same_ev y x
      rw [sm_symm y x] at S2
      have ht := @sm_tag x y
      generalize sm x y = s at *
      cases s with
      | true =>
        have E1' : Evn (fun k => chaperonlaw15_does.f k ⟨#[61, 61]⟩ x.f0 x.f1 x.f2 x.f3 x.f4 y.f0 y.f1 y.f2 y.f3 y.f4 3 1 0 ⟨#[]⟩ []) true := E1
        have E2' : Evn (fun k => chaperonlaw15_does.f k ⟨#[33, 61]⟩ x.f0 x.f1 x.f2 x.f3 x.f4 y.f0 y.f1 y.f2 y.f3 y.f4 3 (wrap64 (1 - 1)) 0 ⟨#[]⟩ []) true := by rw [show wrap64 (1 - 1) = 0 by unfold wrap64; omega]; exact E2
        refine Evn.pos rfl (Evn.succ (Evn.bind S2 (Evn.neg (by decide) (Evn.pos rfl (Evn.pos (ht rfl) ?_)))))
        refine Evn.cbind (a := chaperonlaw15_truth.f 1) rfl (Evn.bind E1' (Evn.pos rfl ?_))
        exact Evn.cbind (a := chaperonlaw15_truth.f (wrap64 (1 - 1))) rfl (Evn.bind E2' J3)
      | false =>
        have E1' : Evn (fun k => chaperonlaw15_does.f k ⟨#[61, 61]⟩ x.f0 x.f1 x.f2 x.f3 x.f4 y.f0 y.f1 y.f2 y.f3 y.f4 3 0 0 ⟨#[]⟩ []) true := E1
        have E2' : Evn (fun k => chaperonlaw15_does.f k ⟨#[33, 61]⟩ x.f0 x.f1 x.f2 x.f3 x.f4 y.f0 y.f1 y.f2 y.f3 y.f4 3 (wrap64 (1 - 0)) 0 ⟨#[]⟩ []) true := by rw [show wrap64 (1 - 0) = 1 by unfold wrap64; omega]; exact E2
        refine Evn.neg (by decide) (Evn.succ (Evn.bind S2 (Evn.neg (by decide) (Evn.neg (by decide) ?_))))
        refine Evn.cbind (a := chaperonlaw15_truth.f 0) rfl (Evn.bind E1' (Evn.pos rfl ?_))
        exact Evn.cbind (a := chaperonlaw15_truth.f (wrap64 (1 - 0))) rfl (Evn.bind E2' J3)
end Go.Proofs.Ytnefifgfpljlkaa.Pure
