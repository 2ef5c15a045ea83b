/- FlowEnds' plain law: a code without loops ends. -/
import Derived.Test.YtimflmgdnfpodaaPAllx26
import Derived.Test.YtimflmgdnfpodaaPFl
import Derived.Test.YtimflmgdnfpodaaPFl3
import Derived.Test.YtimflmgdnfpodaaPAllOpFlowEnds
namespace Go.Proofs.Ytimflmgdnfpodaa.Pure
open Go.RowKit Go.Proofs.Ytimflmgdnfpodaa.PAll Go.Proofs.YtimflmgdnfpodaaW.PrintWords Go.Proofs.YtimflmgdnfpodaaW.PrintLast Go.Proofs.YtimflmgdnfpodaaEv Go.Proofs.YtimflmgdnfpodaaFlow Go.Proofs.YtimflmgdnfpodaaMp
set_option linter.unusedSimpArgs false
set_option linter.unusedVariables false
theorem pick_is (a n : Int) (h0 : 0 < n) (h1 : n < 4611686018427387904) : ∃ r, chaperonkit_Pick.f a n = some r ∧ 0 ≤ r ∧ r < n := by
  unfold chaperonkit_Pick.f
  rw [if_neg (by omega), if_neg (by omega)]
  have hlt := Int.tmod_lt_of_pos a h0
  have hgt := Int.lt_tmod_of_pos a h0
  split
  · rename_i hs
    refine ⟨_, rfl, ?_, ?_⟩ <;> (unfold wrap64; omega)
  · exact ⟨_, rfl, by omega, hlt⟩
theorem rd_mem (l : List Int) (i : Nat) (h : i < l.length) : rd l (i : Int) ∈ l := by
  unfold rd
  rw [Int.toNat_natCast, List.getD_eq_getElem?_getD, List.getElem?_eq_getElem h]
  exact List.getElem_mem h
/-- A loop's place goes to itself or to one ahead, with its last way. -/
theorem loop_last (l : List Ins) (j : Nat) (hj : j < 20000) (h : isJ (insAt l j) = true) (hA : (insAt l j).f1 ≤ (j : Int)) : ∃ ys, flow_Reach.to l (j : Int) = ys ++ [(insAt l j).f1] ∧ ys.length ≤ 1 := by
  rw [to_is l j (by omega)]
  unfold isJ at h
  by_cases h1 : (insAt l j).f0 = 11
  · rw [if_pos h1]; exact ⟨[], rfl, by simp⟩
  · rw [if_neg h1]
    have h2 : (insAt l j).f0 = 12 := by simpa [h1] using h
    rw [if_pos h2, if_neg (by omega)]
    exact ⟨[(j : Int) + 1], rfl, by simp⟩
theorem ahead (l : List Ins) (hl : l.length ≤ 20000) (hn : lp l l.length = []) (j : Nat) (hj : j < l.length) : ∀ x ∈ flow_Reach.to l (j : Int), (j : Int) < x := by
  have hJ : isJ (insAt l j) = true → (j : Int) < (insAt l j).f1 := fun h => by
    refine Classical.byContradiction fun hc => ?_
    have : (j : Int) ∈ lp l l.length := (lp_mem l _ _).2 ⟨j, hj, rfl, h, by omega⟩
    rw [hn] at this; cases this
  rw [to_is l j (by omega)]
  unfold isJ at hJ
  intro x hx
  split at hx
  · rename_i h1
    rw [List.mem_singleton.1 hx]; exact hJ (by simp [h1])
  · split at hx
    · rename_i h1 h2
      have := hJ (by simp [h2])
      split at hx
      · rw [List.mem_singleton.1 hx]; omega
      · simp only [List.mem_cons, List.not_mem_nil, or_false] at hx
        rcases hx with rfl | rfl <;> omega
    · split at hx
      · cases hx
      · rw [List.mem_singleton.1 hx]; omega
theorem steps_run (l : List Ins) (hC : flow_Check.f l = some (0, 0)) (hn : lp l l.length = []) (ways : List Int) (hw : ways.length ≤ 300) : ∀ (d p s : Nat), l.length - p ≤ d → p < l.length → s ≤ p → Evn (fun k => chaperonlaw24_FlowEnds.l1 k l ways true (p : Int) (s : Int)) true := by
  obtain ⟨hpos, hlen, _⟩ := flow_Parts.ok l hC
  intro d
  induction d with
  | zero => intro p s h1 h2 h3; omega
  | succ d ih =>
    intro p s h1 h2 h3
    have hgo : ∀ x ∈ flow_Reach.to l (p : Int), Evn (fun k => chaperonlaw24_FlowEnds.l1 k l ways true x (wrap64 ((s : Int) + 1))) true ∧ ¬ x ≤ (p : Int) := fun x hx => by
      have hx1 := ahead l hlen hn p h2 x hx
      have hx2 := to_in hC p h2 x hx
      have := ih x.toNat (s + 1) (by omega) (by omega) (by omega)
      rw [show ((x.toNat : Nat) : Int) = x by omega] at this
      rw [show wrap64 ((s : Int) + 1) = ((s + 1 : Nat) : Int) by unfold wrap64; omega]
      exact ⟨this, by omega⟩
    have htl := to_len l p (by omega)
    refine Evn.succ (Evn.neg (by omega) (Evn.cbind (next_is l (p : Int) (by omega) (by omega)) (Evn.pos rfl ?_)))
    generalize flow_Reach.to l (p : Int) = ts at hgo htl
    by_cases hz : (ts.length : Int) = 0
    · exact Evn.pos hz (Evn.ret _)
    refine Evn.neg hz ?_
    by_cases hwz : (ways.length : Int) > 0
    · have h5 := Int.tmod_lt_of_pos (s : Int) (b := (ways.length : Int)) hwz
      have h6 : 0 ≤ Int.tmod (s : Int) (ways.length : Int) := Int.tmod_nonneg _ (by omega)
      obtain ⟨r, hr, hr0, hr1⟩ := pick_is (rd ways (Int.tmod (s : Int) (ways.length : Int))) (ts.length : Int) (by omega) (by omega)
      refine Evn.pos hwz (Evn.neg (by omega) (Evn.pos h6 (Evn.pos h5 (Evn.cbind hr (Evn.pos hr0 (Evn.pos hr1 ?_))))))
      have hm := rd_mem ts r.toNat (by omega)
      rw [show ((r.toNat : Nat) : Int) = r by omega] at hm
      exact Evn.neg (hgo _ hm).2 (hgo _ hm).1
    · refine Evn.neg hwz (Evn.pos (show 0 < (ts.length : Int) by omega) ?_)
      have hm := rd_mem ts 0 (by omega)
      exact Evn.neg (hgo _ hm).2 (hgo _ hm).1
theorem FlowEnds : chaperonlaw24_FlowEnds.Pure := by
  intro l place ways hm hw hp hwm hww
  refine Evn.ex (Evn.bind known ?_)
  by_cases h200 : (l.length : Int) > 200
  · exact Evn.pos h200 (Evn.succ (Evn.ret _))
  refine Evn.neg h200 ?_
  by_cases h300 : (ways.length : Int) > 300
  · rw [decide_eq_true h300]
    exact Evn.succ (Evn.ret _)
  rw [decide_eq_false h300]
  refine Evn.succ ?_
  rcases check_cases l with ⟨e, a, hC, he⟩ | ⟨hC, hpos, hlen⟩
  · refine Evn.bind (loops_bad hC he) (Evn.neg (by rcases he with rfl | rfl <;> simp) (Evn.pos rfl (Evn.cbind hC ?_)))
    simp only [beq_self_eq_true, Bool.and_self]
    exact Evn.ret _
  · refine Evn.bind (loops_ok hC) (Evn.pos rfl ?_)
    have hll := lp_len l l.length
    have hlm := lp_mem l
    have key : ∀ (d i : Nat), (lp l l.length).length - i ≤ d → i ≤ (lp l l.length).length → Evn (fun k => chaperonlaw24_FlowEnds.l0 k l place ways true (lp l l.length) (i : Int)) true := by
      have hend : Evn (fun k => chaperonlaw24_FlowEnds.l0 k l place ways true (lp l l.length) ((lp l l.length).length : Int)) true := by
        refine Evn.succ (Evn.neg (by omega) ?_)
        by_cases hz : ((lp l l.length).length : Int) > 0
        · exact Evn.pos hz (Evn.ret _)
        · refine Evn.neg hz ?_
          obtain ⟨r, hr, hr0, hr1⟩ := pick_is place (l.length : Int) (by omega) (by omega)
          refine Evn.cbind hr ?_
          have := steps_run l hC (List.length_eq_zero_iff.1 (by omega)) ways (by omega) l.length r.toNat 0 (by omega) (by omega) (by omega)
          rw [show ((r.toNat : Nat) : Int) = r by omega] at this
          exact this
      intro d
      induction d with
      | zero =>
        intro i h1 h2
        obtain rfl : i = (lp l l.length).length := by omega
        exact hend
      | succ d ih =>
        intro i h1 h2
        by_cases hlt : i < (lp l l.length).length
        · obtain ⟨j, hj, hx, hJ, hA⟩ := (hlm _ l.length).1 (rd_mem (lp l l.length) i hlt)
          have hnx := ih (i + 1) (by omega) (by omega)
          rw [← show wrap64 ((i : Int) + 1) = ((i + 1 : Nat) : Int) by unfold wrap64; omega] at hnx
          obtain ⟨ys, hys, hyl⟩ := loop_last l j (by omega) hJ hA
          refine Evn.succ (Evn.pos (by omega) (Evn.pos (by omega) ?_))
          rw [hx]
          have hlen2 : (flow_Reach.to l (j : Int)).length = ys.length + 1 := by rw [hys]; simp
          have hww2 : wrap64 (((flow_Reach.to l (j : Int)).length : Int) - 1) = (ys.length : Int) := by rw [hlen2]; unfold wrap64; omega
          refine Evn.cbind (next_is l (j : Int) (by omega) (by omega)) (Evn.pos rfl (Evn.neg ?_ ?_))
          · show ¬ (((flow_Reach.to l (j : Int)).length : Int) = 0)
            omega
          · show Evn (fun k => if 0 ≤ wrap64 (((flow_Reach.to l (j : Int)).length : Int) - 1) then _ else _) true
            rw [hww2]
            refine Evn.pos (by omega) (Evn.pos (by show (ys.length : Int) < ((flow_Reach.to l (j : Int)).length : Int); omega) (Evn.neg ?_ hnx))
            have : rd (flow_Reach.to l (j : Int)) (ys.length : Int) = (insAt l j).f1 := by
              rw [hys]
              unfold rd
              simp
            show ¬ (rd (flow_Reach.to l (j : Int)) (ys.length : Int) > (j : Int))
            rw [this]; omega
        · obtain rfl : i = (lp l l.length).length := by omega
          exact hend
    exact key _ 0 (Nat.le_refl _) (Nat.zero_le _)
end Go.Proofs.Ytimflmgdnfpodaa.Pure
