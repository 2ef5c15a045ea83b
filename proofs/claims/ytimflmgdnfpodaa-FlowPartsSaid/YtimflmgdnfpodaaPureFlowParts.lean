/- FlowParts' plain law: each place is in one part, one behind the other. -/
import Derived.Test.YtimflmgdnfpodaaPAllx24
import Derived.Test.YtimflmgdnfpodaaPFl
import Derived.Test.YtimflmgdnfpodaaPAllOpFlowParts
namespace Go.Proofs.Ytimflmgdnfpodaa.Pure
open Go.RowKit Go.Proofs.Ytimflmgdnfpodaa.PAll Go.Proofs.YtimflmgdnfpodaaW.PrintWords Go.Proofs.YtimflmgdnfpodaaW.PrintLast Go.Proofs.YtimflmgdnfpodaaEv Go.Proofs.YtimflmgdnfpodaaFlow Go.Proofs.YtimflmgdnfpodaaMp
set_option linter.unusedSimpArgs false
set_option linter.unusedVariables false
theorem till_run (n : Nat) (has : Int → Bool) : ∀ (k t : Nat), n - t ≤ k → t < n → ∀ j : Nat, t ≤ j → j < flow_Parts.till n has k t → has ((j : Int) + 1) = false
  | 0, t, h, ht, j, h1, h2 => by omega
  | k + 1, t, h, ht, j, h1, h2 => by
    unfold flow_Parts.till at h2
    split at h2
    · rename_i hc
      have hc2 := Bool.and_eq_true_iff.1 hc
      by_cases e : j = t
      · subst e; simpa using hc2.1
      · have hlt : (t : Int) + 1 < (n : Int) := of_decide_eq_true hc2.2
        exact till_run n has k (t + 1) (by omega) (by omega) j (by omega) h2
    · omega
/-- Within a part each place goes to the next one. -/
theorem within (l : List Ins) (hl : l.length ≤ 20000) (j : Nat) (hj : j < l.length) (h : flow_Parts.has l ((j : Int) + 1) = false) : flow_Reach.to l (j : Int) = [(j : Int) + 1] := by
  have hE : isE (insAt l j) = false := by
    cases he : isE (insAt l j) with
    | false => rfl
    | true =>
      have := (has_iff l ((j : Int) + 1)).2 ⟨j, hj, .inr ⟨he, rfl⟩⟩
      rw [h] at this; cases this
  unfold isE at hE
  simp only [Bool.or_eq_false_iff, beq_eq_false_iff_ne] at hE
  rw [to_is l j (by omega), if_neg hE.1.1, if_neg hE.1.2, if_neg hE.2]
def restAt (l : List Ins) (at_ : Nat) : List (S46) := if at_ < l.length then flow_Parts.from l (flow_Parts.has l) (l.length - at_) at_ else []
theorem inner (l : List Ins) (hl : l.length ≤ 20000) (ps : List (S46)) (hps : ps.length ≤ 20000) (i : Nat) (hi : i < ps.length) (t : Nat) (ht : t < l.length) (hx : rd_T46 ps (i : Int) = ⟨(rd_T46 ps (i : Int)).f0, (t : Int), flow_Reach.to l (t : Int)⟩)
    (hn : Evn (fun k => chaperonlaw24_FlowParts.l0 k l true ps ((t + 1 : Nat) : Int) ((i + 1 : Nat) : Int)) true) : ∀ (d a : Nat), t + 1 - a ≤ d → a ≤ t + 1 → (∀ j : Nat, a ≤ j → j < t → flow_Parts.has l ((j : Int) + 1) = false) → Evn (fun k => chaperonlaw24_FlowParts.l1 k l true ps (i : Int) (a : Int)) true := by
  have h1 : (rd_T46 ps (i : Int)).f1 = (t : Int) := by rw [hx]
  have h2 : (rd_T46 ps (i : Int)).f2 = flow_Reach.to l (t : Int) := by rw [hx]
  have hlen : ∀ p : Nat, p < l.length → (flow_Reach.to l (p : Int)).length < 4611686018427387904 := fun p hp => by
    rw [to_is l p (by omega)]
    split
    · simp
    · split
      · split <;> simp
      · split <;> simp
  intro d
  induction d with
  | zero =>
    intro a ha hat hh
    obtain rfl : a = t + 1 := by omega
    refine Evn.succ (Evn.pos (by omega) (Evn.pos (by omega) (Evn.neg (by rw [h1]; omega) ?_)))
    rw [h1]
    rw [show wrap64 ((t : Int) + 1) = ((t + 1 : Nat) : Int) by unfold wrap64; omega, show wrap64 ((i : Int) + 1) = ((i + 1 : Nat) : Int) by unfold wrap64; omega]
    exact hn
  | succ d ih =>
    intro a ha hat hh
    by_cases he : a = t + 1
    · exact ih a (by omega) hat hh
    have hw : wrap64 ((a : Int) + 1) = ((a + 1 : Nat) : Int) := by unfold wrap64; omega
    have hnext := ih (a + 1) (by omega) (by omega) (fun j h3 h4 => hh j (by omega) h4)
    refine Evn.succ (Evn.pos (by omega) (Evn.pos (by omega) (Evn.pos (by rw [h1]; omega) (Evn.cbind (next_is l (a : Int) (by omega) (by omega)) (Evn.pos rfl ?_)))))
    by_cases hlt : a < t
    · refine Evn.pos (by rw [h1]; omega) ?_
      rw [within l hl a (by omega) (hh a (Nat.le_refl _) hlt), hw]
      refine Evn.bind (same_ints [((a + 1 : Nat) : Int)] (by simp)) (Evn.pos rfl (Evn.neg (by rw [h1]; omega) hnext))
    · obtain rfl : a = t := by omega
      refine Evn.neg (by rw [h1]; omega) (Evn.pos h1.symm ?_)
      rw [h2]
      refine Evn.bind (same_ints _ (hlen a ht)) (Evn.pos rfl ?_)
      rw [hw]
      exact hnext
theorem outer (l : List Ins) (hl : l.length ≤ 20000) (ps : List (S46)) (hps : ps.length ≤ 20000) : ∀ (d a i : Nat), l.length - a ≤ d → a ≤ l.length → ps.drop i = restAt l a → i ≤ ps.length → Evn (fun k => chaperonlaw24_FlowParts.l0 k l true ps (a : Int) (i : Int)) true := by
  have hend : ∀ i : Nat, ps.drop i = [] → i ≤ ps.length → Evn (fun k => chaperonlaw24_FlowParts.l0 k l true ps (l.length : Int) (i : Int)) true := fun i h h2 => by
    have : ps.length ≤ i := List.drop_eq_nil_iff.1 h
    refine Evn.succ (Evn.neg (by omega) (Evn.pos rfl ?_))
    rw [beq_self_eq_true]
    exact Evn.ret _
  intro d
  induction d with
  | zero =>
    intro a i ha hal hd hi
    obtain rfl : a = l.length := by omega
    unfold restAt at hd
    rw [if_neg (by omega)] at hd
    exact hend i hd hi
  | succ d ih =>
    intro a i ha hal hd hi
    by_cases hlt : a < l.length
    · unfold restAt at hd
      rw [if_pos hlt, flow_Parts.from_step l (flow_Parts.has l) a hlt] at hd
      have htl := flow_Parts.till_le l.length (flow_Parts.has l) (l.length - a) a hlt
      have hrun := till_run l.length (flow_Parts.has l) (l.length - a) a (Nat.le_refl _) hlt
      generalize flow_Parts.till l.length (flow_Parts.has l) (l.length - a) a = t at hd htl hrun
      have hi2 : i < ps.length := by
        refine Classical.byContradiction fun hc => ?_
        rw [List.drop_eq_nil_iff.2 (by omega)] at hd; cases hd
      have hdr := List.drop_eq_getElem_cons hi2
      rw [hdr] at hd
      injection hd with hd1 hd2
      have hx : rd_T46 ps (i : Int) = flow_Parts.one l a t := by
        unfold rd_T46
        rw [Int.toNat_natCast, List.getD_eq_getElem?_getD, List.getElem?_eq_getElem hi2, hd1]; rfl
      have hnx : Evn (fun k => chaperonlaw24_FlowParts.l0 k l true ps ((t + 1 : Nat) : Int) ((i + 1 : Nat) : Int)) true := by
        refine ih (t + 1) (i + 1) (by omega) (by omega) ?_ (by omega)
        rw [hd2]
        unfold restAt
        rfl
      have hin := inner l hl ps hps i hi2 t htl.2 (by rw [hx]; rfl) hnx (t + 1 - a) a (Nat.le_refl _) (by omega) (fun j h1 h2 => hrun j h1 h2)
      refine Evn.succ (Evn.pos (by omega) (Evn.pos (by omega) (Evn.pos (by rw [hx]; rfl) (Evn.neg (by rw [hx]; show ¬ ((t : Int) < (a : Int)); omega) ?_))))
      rw [show decide ((rd_T46 ps (i : Int)).f1 ≥ (l.length : Int)) = false by rw [hx]; exact decide_eq_false (by show ¬ ((t : Int) ≥ (l.length : Int)); omega)]
      exact Evn.succ hin
    · obtain rfl : a = l.length := by omega
      unfold restAt at hd
      rw [if_neg hlt] at hd
      exact hend i hd hi
theorem FlowParts : chaperonlaw24_FlowParts.Pure := by
  intro l hm hw
  refine Evn.ex (Evn.bind known ?_)
  by_cases h200 : (l.length : Int) > 200
  · exact Evn.pos h200 (Evn.ret _)
  refine Evn.neg h200 ?_
  rcases check_cases l with ⟨e, a, hC, he⟩ | ⟨hC, hpos, hlen⟩
  · refine Evn.cbind (parts_bad hC he) (Evn.neg (by rcases he with rfl | rfl <;> simp) (Evn.pos rfl (Evn.cbind hC (Evn.pos ?_ (Evn.ret _)))))
    simp
  · refine Evn.cbind (parts_ok hC) (Evn.pos rfl ?_)
    refine outer l hlen _ ?_ l.length 0 0 (by omega) (by omega) ?_ (Nat.zero_le _)
    · have := flow_Parts.from_len l (flow_Parts.has l) l.length 0 hpos
      show (flow_Parts.from l (flow_Parts.has l) l.length 0).length ≤ 20000
      omega
    · unfold restAt
      rw [if_pos hpos]; rfl
end Go.Proofs.Ytimflmgdnfpodaa.Pure
