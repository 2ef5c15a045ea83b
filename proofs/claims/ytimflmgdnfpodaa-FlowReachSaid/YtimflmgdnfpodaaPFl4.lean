/- flow.Reach, in plain Lean: what is reached is closed. -/
import Derived.Test.YtimflmgdnfpodaaPAllx21
import Derived.Test.YtimflmgdnfpodaaPFl3
namespace Go.Proofs.Ytimflmgdnfpodaa.Pure
open Go.RowKit Go.Proofs.Ytimflmgdnfpodaa.PAll Go.Proofs.YtimflmgdnfpodaaW.PrintWords Go.Proofs.YtimflmgdnfpodaaW.PrintLast Go.Proofs.YtimflmgdnfpodaaEv Go.Proofs.YtimflmgdnfpodaaFlow Go.Proofs.YtimflmgdnfpodaaMp
set_option linter.unusedSimpArgs false
set_option linter.unusedVariables false
theorem put_mem (ws : List Int) (y x : Int) : x ∈ flow_Reach.put ws y ↔ x ∈ ws ∨ x = y := by
  unfold flow_Reach.put
  split
  · rename_i h
    constructor
    · exact .inl
    · rintro (h1 | rfl)
      · exact h1
      · exact h
  · simp
theorem puts_mem (ts : List Int) : ∀ (ws : List Int) (x : Int), x ∈ flow_Reach.puts ws ts ↔ x ∈ ws ∨ x ∈ ts := by
  induction ts with
  | nil => intro ws x; simp [flow_Reach.puts]
  | cons y r ih =>
    intro ws x
    show x ∈ flow_Reach.puts (flow_Reach.put ws y) r ↔ _
    rw [ih, put_mem]
    simp only [List.mem_cons]
    constructor
    · rintro ((h | h) | h)
      · exact .inl h
      · exact .inr (.inl h)
      · exact .inr (.inr h)
    · rintro (h | h | h)
      · exact .inl (.inl h)
      · exact .inl (.inr h)
      · exact .inr h
theorem puts_wt {n : Nat} (ts : List Int) : ∀ (ws : List Int), flow_Reach.Wt n ws → (∀ x ∈ ts, 0 ≤ x ∧ x < (n : Int)) → flow_Reach.Wt n (flow_Reach.puts ws ts) := by
  induction ts with
  | nil => intro ws h _; exact h
  | cons y r ih =>
    intro ws h ht
    exact ih _ (h.put y (ht y (by simp))) (fun x hx => ht x (by simp [hx]))
/-- What the places reached are. -/
structure Reached (l : List Ins) (ws : List Int) : Prop where
  wt : flow_Reach.Wt l.length ws
  zero : (0 : Int) ∈ ws
  shut : ∀ x ∈ ws, ∀ y ∈ flow_Reach.to l x, y ∈ ws
  from_ : ∀ x ∈ ws, x = 0 ∨ ∃ y ∈ ws, x ∈ flow_Reach.to l y
theorem go_reached {l : List Ins} (hC : flow_Check.f l = some (0, 0)) : ∀ (k i : Nat) (ws : List Int), l.length ≤ k + i → flow_Reach.Wt l.length ws → (0 : Int) ∈ ws → (∀ m : Nat, m < i → m < ws.length → ∀ y ∈ flow_Reach.to l (ws.getD m 0), y ∈ ws) → (∀ x ∈ ws, x = 0 ∨ ∃ y ∈ ws, x ∈ flow_Reach.to l y) → Reached l (flow_Reach.go l k i ws) := by
  have hend : ∀ (i : Nat) (ws : List Int), ws.length ≤ i → flow_Reach.Wt l.length ws → (0 : Int) ∈ ws → (∀ m : Nat, m < i → m < ws.length → ∀ y ∈ flow_Reach.to l (ws.getD m 0), y ∈ ws) → (∀ x ∈ ws, x = 0 ∨ ∃ y ∈ ws, x ∈ flow_Reach.to l y) → Reached l ws := fun i ws h h1 h2 h3 h4 => by
    refine ⟨h1, h2, fun x hx y hy => ?_, h4⟩
    obtain ⟨m, hm, rfl⟩ := List.getElem_of_mem hx
    refine h3 m (by omega) hm y ?_
    rw [List.getD_eq_getElem?_getD, List.getElem?_eq_getElem hm]
    exact hy
  intro k
  induction k with
  | zero =>
    intro i ws h h1 h2 h3 h4
    exact hend i ws (by have := h1.len; omega) h1 h2 h3 h4
  | succ k ih =>
    intro i ws h h1 h2 h3 h4
    unfold flow_Reach.go
    by_cases hlt : i < ws.length
    · rw [if_pos hlt]
      have hm : ws.getD i 0 ∈ ws := by rw [List.getD_eq_getElem?_getD, List.getElem?_eq_getElem hlt]; exact List.getElem_mem hlt
      obtain ⟨hp0, hp1⟩ := h1.wf _ hm
      have hin := to_in hC (ws.getD i 0).toNat (by omega)
      rw [show (((ws.getD i 0).toNat : Nat) : Int) = ws.getD i 0 by omega] at hin
      generalize hts : flow_Reach.to l (ws.getD i 0) = ts at hin
      have hpre := flow_Reach.puts_pre ws ts
      refine ih (i + 1) _ (by omega) (puts_wt ts ws h1 hin) ((puts_mem ts ws 0).2 (.inl h2)) (fun m hm1 hm2 y hy => ?_) (fun x hx => ?_)
      · refine (puts_mem ts ws y).2 ?_
        by_cases hmw : m < ws.length
        · have he : (flow_Reach.puts ws ts).getD m 0 = ws.getD m 0 := by
            obtain ⟨r, hr⟩ := hpre
            rw [← hr, List.getD_eq_getElem?_getD, List.getD_eq_getElem?_getD, List.getElem?_append_left hmw]
          rw [he] at hy
          by_cases e : m = i
          · subst e; rw [hts] at hy; exact .inr hy
          · exact .inl (h3 m (by omega) hmw y hy)
        · omega
      · rcases (puts_mem ts ws x).1 hx with h5 | h5
        · rcases h4 x h5 with h6 | ⟨y, hy, h6⟩
          · exact .inl h6
          · exact .inr ⟨y, (puts_mem ts ws y).2 (.inl hy), h6⟩
        · exact .inr ⟨_, (puts_mem ts ws _).2 (.inl hm), by rw [hts]; exact h5⟩
    · rw [if_neg hlt]
      exact hend i ws (by omega) h1 h2 h3 h4
theorem reached {l : List Ins} (hC : flow_Check.f l = some (0, 0)) : Reached l (flow_Reach.go l l.length 0 [0]) := by
  obtain ⟨hpos, hlen, _⟩ := flow_Parts.ok l hC
  exact go_reached hC l.length 0 [0] (by omega) ⟨fun x hx => by rw [List.mem_singleton.1 hx]; omega, by simp⟩ (by simp) (fun m hm => by omega) (fun x hx => .inl (List.mem_singleton.1 hx))
/-- A sorted row, in rising order. -/
theorem sorted_lt {ws : List Int} (h : ws.Nodup) : (sortI ws).Pairwise (fun a b => a < b) := by
  have ht : ∀ a b c : Int, decide (a ≤ b) = true → decide (b ≤ c) = true → decide (a ≤ c) = true := fun a b c h1 h2 => decide_eq_true (Int.le_trans (of_decide_eq_true h1) (of_decide_eq_true h2))
  have hc : ∀ a b : Int, (decide (a ≤ b) || decide (b ≤ a)) = true := fun a b => by simp; omega
  have h1 : (sortI ws).Pairwise (fun a b => decide (a ≤ b) = true) := List.pairwise_mergeSort ht hc ws
  have h2 : (sortI ws).Nodup := (List.mergeSort_perm ws _).nodup_iff.2 h
  refine (h1.and h2).imp fun {a b} hab => ?_
  have := of_decide_eq_true hab.1
  have := hab.2
  omega
theorem sorted_mem {ws : List Int} {x : Int} : x ∈ sortI ws ↔ x ∈ ws := (List.mergeSort_perm ws _).mem_iff
theorem sorted_len (ws : List Int) : (sortI ws).length = ws.length := (List.mergeSort_perm ws _).length_eq
end Go.Proofs.Ytimflmgdnfpodaa.Pure
