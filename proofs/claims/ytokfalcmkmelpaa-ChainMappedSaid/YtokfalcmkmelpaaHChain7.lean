/- chain: norms of turned chains, of chains in a frame; first and last ones. Plain Lean. -/
import Derived.Test.YtokfalcmkmelpaaHChain5
namespace Go.Proofs.YtokfalcmkmelpaaHChain
set_option linter.unusedSimpArgs false
set_option linter.unusedVariables false
section
variable {A B : Type}
theorem range_turned (n : Nat) : (List.range n).map (n - 1 - ·) = (List.range n).reverse := by
  refine List.ext_getElem (by simp) fun i h1 h2 => ?_
  rw [List.getElem_map, List.getElem_range, List.getElem_reverse, List.getElem_range, List.length_range]
theorem kept_turned {x y : Nat → A} {N : Nat} (h : ∀ k, k < N → y k = x (N - 1 - k)) {i : Nat} (hi : i < N) : Kept y (· < N) i ↔ Kept x (· < N) (N - 1 - i) := by
  unfold Kept
  refine and_congr (iff_of_true hi (by show N - 1 - i < N; omega)) ?_
  have h1 : KeptF y (· < N) i ↔ KeptB x (· < N) (N - 1 - i) := by
    constructor
    · rintro ⟨j, h1, h2, h3, h4⟩
      have h2' : j < N := h2
      refine ⟨N - 1 - j, by omega, by show _ < N; omega, fun k hk hlt => ?_, fun k hk h5 h6 => ?_⟩
      · have hk' : k < N := hk
        have := h3 (N - 1 - k) (by show _ < N; omega) (by omega)
        rwa [h _ (by omega), h _ h2', show N - 1 - (N - 1 - k) = k by omega] at this
      · have hk' : k < N := hk
        have := h4 (N - 1 - k) (by show _ < N; omega) (by omega) (by omega)
        rwa [h _ (by omega), h _ hi, show N - 1 - (N - 1 - k) = k by omega] at this
    · rintro ⟨j, h1, h2, h3, h4⟩
      have h2' : j < N := h2
      refine ⟨N - 1 - j, by omega, by show _ < N; omega, fun k hk hlt => ?_, fun k hk h5 h6 => ?_⟩
      · have hk' : k < N := hk
        rw [h _ hk', h _ (by omega), show N - 1 - (N - 1 - j) = j by omega]
        exact h3 _ (by show _ < N; omega) (by omega)
      · have hk' : k < N := hk
        rw [h _ hk', h _ hi]
        exact h4 _ (by show _ < N; omega) (by omega) (by omega)
  have h2 : KeptB y (· < N) i ↔ KeptF x (· < N) (N - 1 - i) := by
    constructor
    · rintro ⟨j, h1, h2, h3, h4⟩
      have h2' : j < N := h2
      refine ⟨N - 1 - j, by omega, by show _ < N; omega, fun k hk hlt => ?_, fun k hk h5 h6 => ?_⟩
      · have hk' : k < N := hk
        have := h3 (N - 1 - k) (by show _ < N; omega) (by omega)
        rwa [h _ (by omega), h _ h2', show N - 1 - (N - 1 - k) = k by omega] at this
      · have hk' : k < N := hk
        have := h4 (N - 1 - k) (by show _ < N; omega) (by omega) (by omega)
        rwa [h _ (by omega), h _ hi, show N - 1 - (N - 1 - k) = k by omega] at this
    · rintro ⟨j, h1, h2, h3, h4⟩
      have h2' : j < N := h2
      refine ⟨N - 1 - j, by omega, by show _ < N; omega, fun k hk hlt => ?_, fun k hk h5 h6 => ?_⟩
      · have hk' : k < N := hk
        rw [h _ hk', h _ (by omega), show N - 1 - (N - 1 - j) = j by omega]
        exact h3 _ (by show _ < N; omega) (by omega)
      · have hk' : k < N := hk
        rw [h _ hk', h _ hi]
        exact h4 _ (by show _ < N; omega) (by omega) (by omega)
  rw [h1, h2]
  exact Or.comm
theorem turned_at (l : List B) {k : Nat} (h : k < l.length) : l.reverse[k]? = l[l.length - 1 - k]? := by
  rw [List.getElem?_reverse h]
theorem fm_congr {C D : Type} {f g : C → Option D} : ∀ (l : List C), (∀ x ∈ l, f x = g x) → l.filterMap f = l.filterMap g
  | [], _ => rfl
  | x :: r, h => by
    rw [List.filterMap_cons, List.filterMap_cons, h x List.mem_cons_self, fm_congr r fun y hy => h y (List.mem_cons_of_mem _ hy)]
open Classical in
/-- A turned chain has the turned norm. -/
theorem norm_turned (f : B → A) (l : List B) : norm f l.reverse = (norm f l).reverse := by
  rw [norm_eq, norm_eq, List.length_reverse]
  unfold pick
  rw [← List.filterMap_reverse, ← List.filter_reverse, ← range_turned, List.filter_map, List.filterMap_map]
  have e1 : (List.range l.length).filter (fun i => decide (Kept (fun k => (l.reverse[k]?).map f) (· < l.length) i)) = (List.range l.length).filter ((fun i => decide (Kept (fun k => (l[k]?).map f) (· < l.length) i)) ∘ (l.length - 1 - ·)) := by
    refine List.filter_congr fun i hi => ?_
    have hi' := List.mem_range.1 hi
    exact decide_eq_decide.2 (kept_turned (x := fun k => (l[k]?).map f) (y := fun k => (l.reverse[k]?).map f) (fun k hk => by simp only [turned_at l hk]) hi')
  rw [e1]
  refine fm_congr _ fun i hi => ?_
  exact turned_at l (List.mem_range.1 (List.mem_filter.1 hi).1)
open Classical in
/-- All that is kept, and its places. -/
theorem norm_lists (f : B → A) (l : List B) : ∃ P : List Nat, norm f l = pick l P ∧ (∀ i ∈ P, i < l.length) ∧ Lists P fun i => Kept (fun k => (l[k]?).map f) (· < l.length) i := by
  refine ⟨_, norm_eq f l, fun i hi => List.mem_range.1 (List.mem_filter.1 hi).1, ?_⟩
  have := (Lists.range l.length).filter fun i => decide (Kept (fun k => (l[k]?).map f) (· < l.length) i)
  exact ⟨this.sorted, fun i => by rw [this.mem, decide_eq_true_iff]; exact ⟨fun h => h.2, fun h => ⟨h.1, h⟩⟩⟩
theorem add_filter (n m : Nat) (q : Nat → Bool) : (List.range (n + m)).filter q = (List.range n).filter q ++ ((List.range m).filter fun i => q (n + i)).map (n + ·) := by
  rw [List.range_add, List.filter_append, List.filter_map]
  rfl
theorem pick_add (a b : List B) (q : Nat → Bool) : pick (a ++ b) ((List.range (a ++ b).length).filter q) = pick a ((List.range a.length).filter q) ++ pick b ((List.range b.length).filter fun i => q (a.length + i)) := by
  rw [List.length_append, add_filter]
  unfold pick
  rw [List.filterMap_append, List.filterMap_map]
  congr 1
  · refine fm_congr _ fun i hi => ?_
    exact List.getElem?_append_left (List.mem_range.1 (List.mem_filter.1 hi).1)
  · refine fm_congr _ fun i hi => ?_
    show (a ++ b)[a.length + i]? = b[i]?
    rw [List.getElem?_append_right (by omega)]
    congr 1
    omega
theorem pick_all (a : List B) (q : Nat → Bool) (h : ∀ i, i < a.length → q i = true) : pick a ((List.range a.length).filter q) = a := by
  rw [List.filter_eq_self.2 fun i hi => h i (List.mem_range.1 hi), pick_range]
theorem pick_map {C : Type} (g : B → C) (l : List B) (P : List Nat) : pick (l.map g) P = (pick l P).map g := by
  unfold pick
  rw [List.map_filterMap]
  refine fm_congr _ fun i _ => ?_
  simp
open Classical in
/-- A chain in a frame, its letters exchanged, may be made short first. -/
theorem norm_frame {C D : Type} (f0 : B → A) (f : C → D) (g : B → C) (hg : ∀ x y, f0 x = f0 y → f (g x) = f (g y)) (a c : List C) (l : List B) :
    norm f (a ++ (norm f0 l).map g ++ c) = norm f (a ++ l.map g ++ c) := by
  obtain ⟨L, hL⟩ : ∃ L, L = a ++ l.map g ++ c := ⟨_, rfl⟩
  have hlen : L.length = a.length + l.length + c.length := by rw [hL]; simp; omega
  let q : Nat → Bool := fun i => decide (i < a.length ∨ a.length + l.length ≤ i ∨ Kept (fun k => (l[k]?).map f0) (· < l.length) (i - a.length))
  have hp : a ++ (norm f0 l).map g ++ c = pick L ((List.range L.length).filter q) := by
    rw [hL, pick_add, pick_add]
    congr 1
    · congr 1
      · rw [pick_all a q fun i hi => decide_eq_true (.inl hi)]
      · rw [norm_eq, pick_map, List.length_map]
        congr 2
        refine List.filter_congr fun i hi => ?_
        have hi' := List.mem_range.1 hi
        refine decide_eq_decide.2 ?_
        rw [show a.length + i - a.length = i by omega]
        exact ⟨fun h => .inr (.inr h), fun h => by rcases h with h | h | h; omega; omega; exact h⟩
    · rw [pick_all c _ fun i hi => decide_eq_true (.inr (.inl (by simp)))]
  rw [hp, ← hL]
  refine norm_part f L ((Lists.range L.length).filter q) (fun i hi => List.mem_range.1 (List.mem_filter.1 hi).1) fun i hk => ?_
  have hiL : i < L.length := hk.1
  refine ⟨hiL, decide_eq_true ?_⟩
  rcases Nat.lt_or_ge i a.length with h1 | h1
  · exact .inl h1
  rcases Nat.lt_or_ge i (a.length + l.length) with h2 | h2
  case inr.inr => exact .inr (.inl h2)
  refine .inr (.inr ?_)
  obtain ⟨i, rfl⟩ : ∃ j, i = a.length + j := ⟨i - a.length, by omega⟩
  have hi : i < l.length := by omega
  rw [show a.length + i - a.length = i by omega]
  -- a letter of the middle, out of the whole
  have hx : ∀ k, k < l.length → (L[a.length + k]?).map f = (l[k]?).map fun x => f (g x) := by
    intro k hk
    rw [hL, List.append_assoc, List.getElem?_append_right (by omega), List.getElem?_append_left (by simp; omega), show a.length + k - a.length = k by omega]
    simp
    rfl
  have hne : ∀ k m, k < l.length → m < l.length → (L[a.length + k]?).map f ≠ (L[a.length + m]?).map f → (l[k]?).map f0 ≠ (l[m]?).map f0 := by
    intro k m hk hm h he
    rw [hx k hk, hx m hm, List.getElem?_eq_getElem hk, List.getElem?_eq_getElem hm] at h
    rw [List.getElem?_eq_getElem hk, List.getElem?_eq_getElem hm] at he
    simp only [Option.map_some, ne_eq, Option.some.injEq] at h he
    exact h (hg _ _ he)
  refine ⟨hi, ?_⟩
  rcases hk.2 with ⟨j, hj1, hj2, hj3, hj4⟩ | ⟨j, hj1, hj2, hj3, hj4⟩
  · left
    have hjL : j < L.length := hj2
    rcases Nat.lt_or_ge j a.length with h3 | h3
    · refine ⟨i, Nat.le_refl _, hi, fun k hk hki => ?_, fun k hk h5 h6 => absurd h5 (by omega)⟩
      have hk' : k < l.length := hk
      exact hne k i hk' hi (hj4 (a.length + k) (by show _ < L.length; omega) (by omega) (by omega))
    · obtain ⟨j, rfl⟩ : ∃ m, j = a.length + m := ⟨j - a.length, by omega⟩
      refine ⟨j, by omega, by show j < l.length; omega, fun k hk hki => ?_, fun k hk h5 h6 => ?_⟩
      · have hk' : k < l.length := hk
        exact hne k j hk' (by omega) (hj3 (a.length + k) (by show _ < L.length; omega) (by omega))
      · have hk' : k < l.length := hk
        exact hne k i hk' hi (hj4 (a.length + k) (by show _ < L.length; omega) (by omega) (by omega))
  · right
    have hjL : j < L.length := hj2
    rcases Nat.lt_or_ge j (a.length + l.length) with h3 | h3
    · obtain ⟨j, rfl⟩ : ∃ m, j = a.length + m := ⟨j - a.length, by omega⟩
      refine ⟨j, by omega, by show j < l.length; omega, fun k hk hki => ?_, fun k hk h5 h6 => ?_⟩
      · have hk' : k < l.length := hk
        exact hne k j hk' (by omega) (hj3 (a.length + k) (by show _ < L.length; omega) (by omega))
      · have hk' : k < l.length := hk
        exact hne k i hk' hi (hj4 (a.length + k) (by show _ < L.length; omega) (by omega) (by omega))
    · refine ⟨i, Nat.le_refl _, hi, fun k hk hki => ?_, fun k hk h5 h6 => absurd h6 (by omega)⟩
      have hk' : k < l.length := hk
      exact hne k i hk' hi (hj4 (a.length + k) (by show _ < L.length; omega) (by omega) (by omega))
end
end Go.Proofs.YtokfalcmkmelpaaHChain
