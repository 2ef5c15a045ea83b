/- FlowReach's plain law: what is reached is closed, has the first place, and nothing that is not gone to. -/
import Derived.Test.YtimflmgdnfpodaaPAllx27
import Derived.Test.YtimflmgdnfpodaaPFl4
import Derived.Test.YtimflmgdnfpodaaPAllOpFlowReach
namespace Go.Proofs.Ytimflmgdnfpodaa.Pure
open Go.RowKit Go.Proofs.Ytimflmgdnfpodaa.PAll Go.Proofs.YtimflmgdnfpodaaW.PrintWords Go.Proofs.YtimflmgdnfpodaaW.PrintLast Go.Proofs.YtimflmgdnfpodaaEv Go.Proofs.YtimflmgdnfpodaaFlow Go.Proofs.YtimflmgdnfpodaaMp
set_option linter.unusedSimpArgs false
set_option linter.unusedVariables false
theorem rd_get (l : List Int) (i : Nat) (h : i < l.length) : rd l (i : Int) = l[i] := by
  unfold rd
  rw [Int.toNat_natCast, List.getD_eq_getElem?_getD, List.getElem?_eq_getElem h]; rfl
theorem rdOf_set (b : List Bool) (x y : Int) (hx : 0 ≤ x) (hxl : x < (b.length : Int)) (hy : 0 ≤ y) : rdOf false (b.set x.toNat true) y = if y = x then true else rdOf false b y := by
  unfold rdOf
  rw [List.getD_eq_getElem?_getD, List.getD_eq_getElem?_getD, List.getElem?_set]
  by_cases h : y = x
  · subst h
    rw [if_pos rfl, if_pos (by omega), if_pos rfl]; rfl
  · rw [if_neg (by omega), if_neg h]
section
variable {l : List Ins} {ws : List Int} (hC : flow_Check.f l = some (0, 0)) (hR : Reached l ws)
/-- The last loop. -/
theorem l3_run (hlen : l.length ≤ 20000) (is fr : List Bool) (hi : is.length = l.length) (hf : fr.length = l.length) (his : ∀ x, 0 ≤ x → x < (l.length : Int) → (rdOf false is x = true ↔ x ∈ ws)) (hfr : ∀ x ∈ ws, rdOf false fr x = true) (h0 : (0 : Int) ∈ ws) (hpos : 0 < l.length) : ∀ (d i : Nat), l.length - i ≤ d → i ≤ l.length → Evn (fun k => chaperonlaw24_FlowReach.l3 k l true is fr (i : Int)) true := by
  have hend : Evn (fun k => chaperonlaw24_FlowReach.l3 k l true is fr (l.length : Int)) true := by
    refine Evn.succ (Evn.neg (by omega) (Evn.pos rfl (Evn.pos (by omega) ?_)))
    rw [(his 0 (by omega) (by omega)).2 h0]
    exact Evn.ret _
  intro d
  induction d with
  | zero =>
    intro i h1 h2
    obtain rfl : i = l.length := by omega
    exact hend
  | succ d ih =>
    intro i h1 h2
    by_cases hlt : i < l.length
    · have hnx := ih (i + 1) (by omega) (by omega)
      rw [← show wrap64 ((i : Int) + 1) = ((i + 1 : Nat) : Int) by unfold wrap64; omega] at hnx
      refine Evn.succ (Evn.pos (by omega) (Evn.pos (by omega) (Evn.pos (by omega) ?_)))
      by_cases hm : rdOf false is (i : Int) = true
      · exact Evn.pos hm (Evn.pos (by omega) (Evn.pos (hfr _ ((his _ (by omega) (by omega)).1 hm)) hnx))
      · exact Evn.neg hm hnx
    · obtain rfl : i = l.length := by omega
      exact hend
theorem l2_go (r : List Int) (is : List Bool) (hi : is.length = l.length) (his : ∀ x, 0 ≤ x → x < (l.length : Int) → (rdOf false is x = true ↔ x ∈ ws)) (x9 : Int) (ts : List Int) (hl : ts.length ≤ 20000) (hts : ∀ y ∈ ts, (0 ≤ y ∧ y < (l.length : Int)) ∧ y ∈ ws) (Pf : List Bool → Prop)
    (hPf : ∀ fr y, Pf fr → fr.length = l.length → 0 ≤ y → y < (l.length : Int) → Pf (fr.set y.toNat true)) (hn : ∀ fr : List Bool, Pf fr → fr.length = l.length → (∀ y ∈ ts, rdOf false fr y = true) → Evn (fun k => chaperonlaw24_FlowReach.l1 k l true r is fr (wrap64 (x9 + 1))) true) :
    ∀ (d i : Nat) (fr : List Bool), ts.length - i ≤ d → i ≤ ts.length → fr.length = l.length → Pf fr → (∀ y ∈ ts.take i, rdOf false fr y = true) → Evn (fun k => chaperonlaw24_FlowReach.l2 k l true r is fr x9 ts (i : Int)) true := by
  have hend : ∀ fr : List Bool, fr.length = l.length → Pf fr → (∀ y ∈ ts.take ts.length, rdOf false fr y = true) → Evn (fun k => chaperonlaw24_FlowReach.l2 k l true r is fr x9 ts (ts.length : Int)) true := fun fr h1 h2 h3 => by
    refine Evn.succ (Evn.neg (by omega) ?_)
    exact hn fr h2 h1 (by rw [List.take_length] at h3; exact h3)
  intro d
  induction d with
  | zero =>
    intro i fr h1 h2 h3 h4 h5
    obtain rfl : i = ts.length := by omega
    exact hend fr h3 h4 h5
  | succ d ih =>
    intro i fr h1 h2 h3 h4 h5
    by_cases hlt : i < ts.length
    · have hy := hts _ (List.getElem_mem hlt)
      have hrd := rd_get ts i hlt
      refine Evn.succ (Evn.pos (by omega) (Evn.pos (by omega) ?_))
      rw [hrd]
      refine Evn.neg (by omega) (Evn.neg (by omega) (Evn.pos (by omega) (Evn.pos (by omega) (Evn.pos ((his _ hy.1.1 hy.1.2).2 hy.2) (Evn.pos (by omega) ?_)))))
      rw [show wrap64 ((i : Int) + 1) = ((i + 1 : Nat) : Int) by unfold wrap64; omega]
      refine ih (i + 1) _ (by omega) (by omega) (by simpa using h3) (hPf fr _ h4 h3 hy.1.1 hy.1.2) (fun y hym => ?_)
      rw [List.take_succ_eq_append_getElem hlt, List.mem_append, List.mem_singleton] at hym
      by_cases e : y = ts[i]
      · rw [rdOf_set fr _ _ hy.1.1 (by omega) (by rw [e]; exact hy.1.1), if_pos e]
      · have hym2 : y ∈ ts.take i := hym.resolve_right e
        have hy2 := hts y (List.mem_of_mem_take hym2)
        rw [rdOf_set fr _ _ hy.1.1 (by omega) hy2.1.1, if_neg e]
        exact h5 y hym2
    · obtain rfl : i = ts.length := by omega
      exact hend fr h3 h4 h5
include hC hR in
/-- The loop over what is reached. -/
theorem l1_run (hlen : l.length ≤ 20000) (hpos : 0 < l.length) (r : List Int) (hr : ∀ x, x ∈ r ↔ x ∈ ws) (hrl : r.length ≤ 20000) (is : List Bool) (hi : is.length = l.length) (his : ∀ x, 0 ≤ x → x < (l.length : Int) → (rdOf false is x = true ↔ x ∈ ws)) :
    ∀ (d i : Nat) (fr : List Bool), r.length - i ≤ d → i ≤ r.length → fr.length = l.length → rdOf false fr 0 = true → (∀ y ∈ r.take i, ∀ x ∈ flow_Reach.to l y, rdOf false fr x = true) → Evn (fun k => chaperonlaw24_FlowReach.l1 k l true r is fr (i : Int)) true := by
  have hend : ∀ fr : List Bool, fr.length = l.length → rdOf false fr 0 = true → (∀ y ∈ r.take r.length, ∀ x ∈ flow_Reach.to l y, rdOf false fr x = true) → Evn (fun k => chaperonlaw24_FlowReach.l1 k l true r is fr (r.length : Int)) true := fun fr h1 h2 h3 => by
    rw [List.take_length] at h3
    refine Evn.succ (Evn.neg (by omega) ?_)
    refine l3_run hlen is fr hi h1 his (fun x hx => ?_) hR.zero hpos l.length 0 (by omega) (by omega)
    rcases hR.from_ x hx with rfl | ⟨y, hy, hxy⟩
    · exact h2
    · exact h3 y ((hr y).2 hy) x hxy
  intro d
  induction d with
  | zero =>
    intro i fr h1 h2 h3 h4 h5
    obtain rfl : i = r.length := by omega
    exact hend fr h3 h4 h5
  | succ d ih =>
    intro i fr h1 h2 h3 h4 h5
    by_cases hlt : i < r.length
    · have hm := (hr _).1 (List.getElem_mem hlt)
      obtain ⟨hp0, hp1⟩ := hR.wt.wf _ hm
      have hrd := rd_get r i hlt
      have htl := to_len l (r[i]).toNat (by omega)
      have hti := to_in hC (r[i]).toNat (by omega)
      rw [show (((r[i]).toNat : Nat) : Int) = r[i] by omega] at htl hti
      refine Evn.succ (Evn.pos (by omega) (Evn.pos (by omega) ?_))
      rw [hrd]
      refine Evn.cbind (next_is l _ hp0 hp1) (Evn.pos rfl ?_)
      refine l2_go r is hi his (i : Int) (flow_Reach.to l r[i]) (by omega) (fun y hy => ⟨hti y hy, hR.shut _ hm y hy⟩) (fun fr => rdOf false fr 0 = true ∧ ∀ y ∈ r.take i, ∀ x ∈ flow_Reach.to l y, rdOf false fr x = true)
        (fun fr y hP hl hy0 hy1 => ⟨?_, fun z hz x hx => ?_⟩) (fun fr hP hl hall => ?_) _ 0 fr (Nat.le_refl _) (Nat.zero_le _) h3 ⟨h4, h5⟩ (fun y hy => by simp at hy)
      · rw [rdOf_set fr y 0 hy0 (by omega) (by omega)]
        split
        · rfl
        · exact hP.1
      · have hz2 := (hr z).1 (List.mem_of_mem_take hz)
        obtain ⟨hz0, hz1⟩ := hR.wt.wf z hz2
        have hx0 := hR.wt.wf x (hR.shut z hz2 x hx)
        rw [rdOf_set fr y x hy0 (by omega) hx0.1]
        split
        · rfl
        · exact hP.2 z hz x hx
      · rw [show wrap64 ((i : Int) + 1) = ((i + 1 : Nat) : Int) by unfold wrap64; omega]
        refine ih (i + 1) fr (by omega) (by omega) hl hP.1 (fun y hy x hx => ?_)
        rw [List.take_succ_eq_append_getElem hlt, List.mem_append, List.mem_singleton] at hy
        rcases hy with hy | rfl
        · exact hP.2 y hy x hx
        · exact hall x hx
    · obtain rfl : i = r.length := by omega
      exact hend fr h3 h4 h5
include hC hR in
/-- The loop that marks. -/
theorem l0_run (hlen : l.length ≤ 20000) (hpos : 0 < l.length) (r : List Int) (hr : ∀ x, x ∈ r ↔ x ∈ ws) (hrl : r.length ≤ 20000) (hinc : r.Pairwise (fun a b => a < b)) (fr : List Bool) (hf : fr.length = l.length) :
    ∀ (d i : Nat) (is : List Bool), r.length - i ≤ d → i ≤ r.length → is.length = l.length → (∀ x, 0 ≤ x → x < (l.length : Int) → (rdOf false is x = true ↔ x ∈ r.take i)) → Evn (fun k => chaperonlaw24_FlowReach.l0 k l true r is fr (i : Int)) true := by
  have hend : ∀ is : List Bool, is.length = l.length → (∀ x, 0 ≤ x → x < (l.length : Int) → (rdOf false is x = true ↔ x ∈ r.take r.length)) → Evn (fun k => chaperonlaw24_FlowReach.l0 k l true r is fr (r.length : Int)) true := fun is h1 h2 => by
    rw [List.take_length] at h2
    refine Evn.succ (Evn.neg (by omega) (Evn.pos (by omega) ?_))
    refine l1_run hC hR hlen hpos r hr hrl is h1 (fun x h3 h4 => (h2 x h3 h4).trans (hr x)) r.length 0 _ (by omega) (by omega) (by simpa using hf) ?_ (fun y hy => by simp at hy)
    have := rdOf_set fr 0 0 (by omega) (by omega) (by omega)
    rw [this, if_pos rfl]
  intro d
  induction d with
  | zero =>
    intro i is h1 h2 h3 h4
    obtain rfl : i = r.length := by omega
    exact hend is h3 h4
  | succ d ih =>
    intro i is h1 h2 h3 h4
    by_cases hlt : i < r.length
    · have hm := (hr _).1 (List.getElem_mem hlt)
      obtain ⟨hp0, hp1⟩ := hR.wt.wf _ hm
      have hrd := rd_get r i hlt
      have hnx : Evn (fun k => chaperonlaw24_FlowReach.l0 k l true r (is.set (r[i]).toNat true) fr (wrap64 ((i : Int) + 1))) true := by
        rw [show wrap64 ((i : Int) + 1) = ((i + 1 : Nat) : Int) by unfold wrap64; omega]
        refine ih (i + 1) _ (by omega) (by omega) (by simpa using h3) (fun x hx0 hx1 => ?_)
        rw [rdOf_set is _ _ hp0 (by omega) hx0, List.take_succ_eq_append_getElem hlt, List.mem_append, List.mem_singleton]
        by_cases e : x = r[i]
        · rw [if_pos e]; simp [e]
        · rw [if_neg e, h4 x hx0 hx1]; simp [e]
      refine Evn.succ (Evn.pos (by omega) (Evn.pos (by omega) ?_))
      rw [hrd]
      refine Evn.neg (by omega) (Evn.neg (by omega) ?_)
      by_cases hi0 : (i : Int) > 0
      · have hw : wrap64 ((i : Int) - 1) = ((i - 1 : Nat) : Int) := by unfold wrap64; omega
        refine Evn.pos hi0 ?_
        rw [hw, rd_get r (i - 1) (by omega)]
        have hlt2 : r[i - 1] < r[i] := List.pairwise_iff_getElem.1 hinc (i - 1) i (by omega) hlt (by omega)
        exact Evn.pos (by omega) (Evn.pos (by omega) (Evn.neg (by omega) (Evn.pos hp0 (Evn.pos (by omega) hnx))))
      · exact Evn.neg hi0 (Evn.pos hp0 (Evn.pos (by omega) hnx))
    · obtain rfl : i = r.length := by omega
      exact hend is h3 h4
end
theorem FlowReach : chaperonlaw24_FlowReach.Pure := by
  intro l hm hw
  refine Evn.ex (Evn.bind known ?_)
  by_cases h200 : (l.length : Int) > 200
  · exact Evn.pos h200 (Evn.ret _)
  refine Evn.neg h200 ?_
  rcases check_cases l with ⟨e, a, hC, he⟩ | ⟨hC, hpos, hlen⟩
  · refine Evn.cbind (reach_bad hC he) (Evn.neg (by rcases he with rfl | rfl <;> simp) (Evn.pos rfl (Evn.cbind hC (Evn.pos ?_ (Evn.ret _)))))
    simp
  · have hR := reached hC
    refine Evn.cbind (reach_ok hC) (Evn.pos rfl (Evn.pos (by omega) (Evn.pos (by omega) ?_)))
    have hl := hR.wt.len
    refine l0_run hC hR hlen hpos _ (fun x => sorted_mem) (by show (sortI (flow_Reach.go l l.length 0 [0])).length ≤ 20000; rw [sorted_len]; omega) (sorted_lt hR.wt.nd) _ (by simp) _ 0 _ (Nat.le_refl _) (Nat.zero_le _) (by simp) (fun x hx0 hx1 => ?_)
    simp [rdOf, List.getD_eq_getElem?_getD, List.getElem?_replicate]
    split <;> rfl
end Go.Proofs.Ytimflmgdnfpodaa.Pure
