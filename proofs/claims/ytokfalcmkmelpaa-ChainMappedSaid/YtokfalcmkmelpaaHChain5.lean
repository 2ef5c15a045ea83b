/- chain: what is kept, by order alone: the law of norms in plain Lean. -/
import Derived.Test.YtokfalcmkmelpaaHChain4
namespace Go.Proofs.YtokfalcmkmelpaaHChain
set_option linter.unusedSimpArgs false
set_option linter.unusedVariables false
open Go.Proofs.YtokfalcmkmelpaaRF Go.Proofs.YtokfalcmkmelpaaMp

/-! ### Kept, over a set of places -/
section
variable {A : Type}
/-- Kept going forwards: behind the first one of some letter, the first one of its own. -/
def KeptF (x : Nat → A) (S : Nat → Prop) (i : Nat) : Prop := ∃ j, j ≤ i ∧ S j ∧ (∀ k, S k → k < j → x k ≠ x j) ∧ ∀ k, S k → j ≤ k → k < i → x k ≠ x i
def KeptB (x : Nat → A) (S : Nat → Prop) (i : Nat) : Prop := ∃ j, i ≤ j ∧ S j ∧ (∀ k, S k → j < k → x k ≠ x j) ∧ ∀ k, S k → i < k → k ≤ j → x k ≠ x i
def Kept (x : Nat → A) (S : Nat → Prop) (i : Nat) : Prop := S i ∧ (KeptF x S i ∨ KeptB x S i)
theorem least {p : Nat → Prop} {n : Nat} (h : p n) : ∃ m, m ≤ n ∧ p m ∧ ∀ k, k < m → ¬ p k := by
  induction n using Nat.strongRecOn with
  | _ n ih =>
    by_cases hx : ∃ k, k < n ∧ p k
    · obtain ⟨k, hk, hp⟩ := hx
      obtain ⟨m, h1, h2, h3⟩ := ih k hk hp
      exact ⟨m, by omega, h2, h3⟩
    · exact ⟨n, Nat.le_refl _, h, fun k hk hp => hx ⟨k, hk, hp⟩⟩
theorem greatest {p : Nat → Prop} {N : Nat} : ∀ {n : Nat}, p n → (∀ k, p k → k < N) → ∃ m, n ≤ m ∧ p m ∧ ∀ k, m < k → ¬ p k := by
  intro n h hb
  obtain ⟨d, hd⟩ : ∃ d, d = N - n := ⟨_, rfl⟩
  induction d using Nat.strongRecOn generalizing n with
  | _ d ih =>
    by_cases hx : ∃ k, n < k ∧ p k
    · obtain ⟨k, hk, hp⟩ := hx
      obtain ⟨m, h1, h2, h3⟩ := ih (N - k) (by have := hb k hp; omega) hp rfl
      exact ⟨m, by omega, h2, h3⟩
    · exact ⟨n, Nat.le_refl _, h, fun k hk hp => hx ⟨k, hk, hp⟩⟩
theorem kept_first {x : Nat → A} {S : Nat → Prop} {j : Nat} (hj : S j) (h : ∀ k, S k → k < j → x k ≠ x j) : Kept x S j :=
  ⟨hj, .inl ⟨j, Nat.le_refl _, hj, h, fun k _ h1 h2 => absurd h1 (by omega)⟩⟩
theorem kept_last {x : Nat → A} {S : Nat → Prop} {j : Nat} (hj : S j) (h : ∀ k, S k → j < k → x k ≠ x j) : Kept x S j :=
  ⟨hj, .inr ⟨j, Nat.le_refl _, hj, h, fun k _ h1 h2 => absurd h1 (by omega)⟩⟩
/-- What is kept is told by any part that holds all that is kept. -/
theorem kept_part {x : Nat → A} {S T : Nat → Prop} {N : Nat} (hN : ∀ k, S k → k < N) (hTS : ∀ k, T k → S k) (hK : ∀ k, Kept x S k → T k) (i : Nat) : Kept x T i ↔ Kept x S i := by
  constructor
  · rintro ⟨hi, ⟨j, hji, hj, h1, h2⟩ | ⟨j, hji, hj, h1, h2⟩⟩
    · have h3 : ∀ k, S k → k < j → x k ≠ x j := by
        intro k hk hkj he
        obtain ⟨m, hm1, ⟨hm2, hm3⟩, hm4⟩ := least (p := fun k => S k ∧ x k = x j) ⟨hk, he⟩
        exact h1 m (hK m (kept_first hm2 fun q hq hqm e => hm4 q hqm ⟨hq, e.trans hm3⟩)) (by omega) hm3
      refine ⟨hTS i hi, .inl ⟨j, hji, hTS j hj, h3, ?_⟩⟩
      intro k hk hjk hki he
      obtain ⟨m, hm1, ⟨hm2, hm3, hm5⟩, hm4⟩ := least (p := fun k => S k ∧ j ≤ k ∧ x k = x i) ⟨hk, hjk, he⟩
      exact h2 m (hK m ⟨hm2, .inl ⟨j, hm3, hTS j hj, h3, fun q hq hjq hqm e => hm4 q hqm ⟨hq, hjq, e.trans hm5⟩⟩⟩) hm3 (by omega) hm5
    · have h3 : ∀ k, S k → j < k → x k ≠ x j := by
        intro k hk hkj he
        obtain ⟨m, hm1, ⟨hm2, hm3⟩, hm4⟩ := greatest (p := fun k => S k ∧ x k = x j) (N := N) ⟨hk, he⟩ fun q hq => hN q hq.1
        exact h1 m (hK m (kept_last hm2 fun q hq hqm e => hm4 q hqm ⟨hq, e.trans hm3⟩)) (by omega) hm3
      refine ⟨hTS i hi, .inr ⟨j, hji, hTS j hj, h3, ?_⟩⟩
      intro k hk hjk hki he
      obtain ⟨m, hm1, ⟨hm2, hm3, hm5⟩, hm4⟩ := greatest (p := fun k => S k ∧ k ≤ j ∧ x k = x i) (N := N) ⟨hk, hki, he⟩ fun q hq => hN q hq.1
      exact h2 m (hK m ⟨hm2, .inr ⟨j, hm3, hTS j hj, h3, fun q hq hqm hjq e => hm4 q hqm ⟨hq, hjq, e.trans hm5⟩⟩⟩) (by omega) hm3 hm5
  · rintro ⟨hi, ⟨j, hji, hj, h1, h2⟩ | ⟨j, hji, hj, h1, h2⟩⟩
    · refine ⟨hK i ⟨hi, .inl ⟨j, hji, hj, h1, h2⟩⟩, .inl ⟨j, hji, hK j (kept_first hj h1), fun k hk => h1 k (hTS k hk), fun k hk => h2 k (hTS k hk)⟩⟩
    · refine ⟨hK i ⟨hi, .inr ⟨j, hji, hj, h1, h2⟩⟩, .inr ⟨j, hji, hK j (kept_last hj h1), fun k hk => h1 k (hTS k hk), fun k hk => h2 k (hTS k hk)⟩⟩
end

/-! ### Norms of lists -/
section
variable {A B : Type}
open Classical in
/-- A list's norm under a letter: those that are kept, by place. -/
noncomputable def norm (f : B → A) (l : List B) : List B := ((List.range l.length).filter fun i => decide (Kept (fun k => (l[k]?).map f) (· < l.length) i)).filterMap (l[·]?)

/-- Places that list a set, in order. -/
structure Lists (P : List Nat) (T : Nat → Prop) : Prop where
  sorted : P.Pairwise (· < ·)
  mem : ∀ i, i ∈ P ↔ T i
theorem Lists.filter {P : List Nat} {T : Nat → Prop} (h : Lists P T) (q : Nat → Bool) : Lists (P.filter q) fun i => T i ∧ q i = true :=
  ⟨h.sorted.filter q, fun i => by rw [List.mem_filter, h.mem]⟩
theorem Lists.range (n : Nat) : Lists (List.range n) (· < n) := ⟨List.pairwise_lt_range, fun i => List.mem_range⟩
theorem Lists.at_lt {P : List Nat} {T : Nat → Prop} (h : Lists P T) {i j : Nat} (hi : i < P.length) (hj : j < P.length) : P[i] < P[j] ↔ i < j := by
  constructor
  · intro hlt
    rcases Nat.lt_or_ge i j with h1 | h1
    · exact h1
    · rcases Nat.lt_or_eq_of_le h1 with h2 | h2
      · have := List.pairwise_iff_getElem.1 h.sorted j i hj hi h2; omega
      · subst h2; omega
  · exact fun h1 => List.pairwise_iff_getElem.1 h.sorted i j hi hj h1
theorem Lists.at_le {P : List Nat} {T : Nat → Prop} (h : Lists P T) {i j : Nat} (hi : i < P.length) (hj : j < P.length) : P[i] ≤ P[j] ↔ i ≤ j := by
  have := h.at_lt hj hi; omega
theorem Lists.ex {P : List Nat} {T : Nat → Prop} (h : Lists P T) {q : Nat → Prop} : (∃ j, T j ∧ q j) ↔ ∃ j, ∃ hj : j < P.length, q P[j] := by
  constructor
  · rintro ⟨j, h1, h2⟩
    obtain ⟨n, hn, rfl⟩ := List.getElem_of_mem ((h.mem j).2 h1)
    exact ⟨n, hn, h2⟩
  · rintro ⟨j, hj, h2⟩
    exact ⟨_, (h.mem _).1 (List.getElem_mem hj), h2⟩
theorem Lists.all {P : List Nat} {T : Nat → Prop} (h : Lists P T) {q : Nat → Prop} : (∀ j, T j → q j) ↔ ∀ j, ∀ hj : j < P.length, q P[j] := by
  constructor
  · exact fun h1 j hj => h1 _ ((h.mem _).1 (List.getElem_mem hj))
  · intro h1 j hj
    obtain ⟨n, hn, rfl⟩ := List.getElem_of_mem ((h.mem j).2 hj)
    exact h1 n hn
/-- A place of a part, as one of the whole. -/
theorem kept_at {x : Nat → A} {P : List Nat} {T : Nat → Prop} (h : Lists P T) {y : Nat → A} (hy : ∀ i, (hi : i < P.length) → y i = x P[i]) {i : Nat} (hi : i < P.length) : Kept y (· < P.length) i ↔ Kept x T P[i] := by
  unfold Kept
  have h0 : i < P.length ↔ T P[i] := iff_of_true hi ((h.mem _).1 (List.getElem_mem hi))
  have hF : KeptF y (· < P.length) i ↔ KeptF x T P[i] := by
    unfold KeptF
    constructor
    · rintro ⟨j, h1, h2, h3, h4⟩
      refine ⟨P[j], (h.at_le h2 hi).2 h1, (h.mem _).1 (List.getElem_mem h2), h.all.2 fun k hk hlt => ?_, h.all.2 fun k hk h5 h6 => ?_⟩
      · rw [← hy k hk, ← hy j h2]; exact h3 k hk ((h.at_lt hk h2).1 hlt)
      · rw [← hy k hk, ← hy i hi]; exact h4 k hk ((h.at_le h2 hk).1 h5) ((h.at_lt hk hi).1 h6)
    · rintro ⟨j, h1, h2, h3, h4⟩
      obtain ⟨j, hj, rfl⟩ := List.getElem_of_mem ((h.mem j).2 h2)
      refine ⟨j, (h.at_le hj hi).1 h1, hj, fun k hk hlt => ?_, fun k hk h5 h6 => ?_⟩
      · rw [hy k hk, hy j hj]; exact h3 _ ((h.mem _).1 (List.getElem_mem hk)) ((h.at_lt hk hj).2 hlt)
      · rw [hy k hk, hy i hi]; exact h4 _ ((h.mem _).1 (List.getElem_mem hk)) ((h.at_le hj hk).2 h5) ((h.at_lt hk hi).2 h6)
  have hB : KeptB y (· < P.length) i ↔ KeptB x T P[i] := by
    unfold KeptB
    constructor
    · rintro ⟨j, h1, h2, h3, h4⟩
      refine ⟨P[j], (h.at_le hi h2).2 h1, (h.mem _).1 (List.getElem_mem h2), h.all.2 fun k hk hlt => ?_, h.all.2 fun k hk h5 h6 => ?_⟩
      · rw [← hy k hk, ← hy j h2]; exact h3 k hk ((h.at_lt h2 hk).1 hlt)
      · rw [← hy k hk, ← hy i hi]; exact h4 k hk ((h.at_lt hi hk).1 h5) ((h.at_le hk h2).1 h6)
    · rintro ⟨j, h1, h2, h3, h4⟩
      obtain ⟨j, hj, rfl⟩ := List.getElem_of_mem ((h.mem j).2 h2)
      refine ⟨j, (h.at_le hi hj).1 h1, hj, fun k hk hlt => ?_, fun k hk h5 h6 => ?_⟩
      · rw [hy k hk, hy j hj]; exact h3 _ ((h.mem _).1 (List.getElem_mem hk)) ((h.at_lt hj hk).2 hlt)
      · rw [hy k hk, hy i hi]; exact h4 _ ((h.mem _).1 (List.getElem_mem hk)) ((h.at_lt hi hk).2 h5) ((h.at_le hk hj).2 h6)
  rw [hF, hB]
  exact and_congr_left' h0
/-- The elements at places that all lie in the list. -/
def pick (l : List B) (P : List Nat) : List B := P.filterMap (l[·]?)
theorem pick_len {l : List B} : ∀ {P : List Nat}, (∀ i ∈ P, i < l.length) → (pick l P).length = P.length
  | [], _ => rfl
  | i :: r, h => by
    have hi := h i List.mem_cons_self
    have ih := pick_len (l := l) (P := r) fun j hj => h j (List.mem_cons_of_mem _ hj)
    unfold pick at ih ⊢
    rw [List.filterMap_cons_some (List.getElem?_eq_getElem hi)]
    simp [ih]
theorem pick_get {l : List B} : ∀ {P : List Nat}, (∀ i ∈ P, i < l.length) → ∀ (n : Nat) (hn : n < P.length), (pick l P)[n]? = l[P[n]]?
  | [], _, n, hn => absurd hn (by simp)
  | i :: r, h, n, hn => by
    have hi := h i List.mem_cons_self
    have ih := pick_get (l := l) (P := r) fun j hj => h j (List.mem_cons_of_mem _ hj)
    unfold pick at ih ⊢
    rw [List.filterMap_cons_some (List.getElem?_eq_getElem hi)]
    cases n with
    | zero => simp [List.getElem?_eq_getElem hi]
    | succ n => simpa using ih n (by simpa using hn)
theorem pick_range (l : List B) : pick l (List.range l.length) = l := by
  refine List.ext_getElem? fun n => ?_
  by_cases hn : n < l.length
  · rw [pick_get (by simp) n (by simpa using hn)]; simp
  · rw [List.getElem?_eq_none (by rw [pick_len (by simp)]; simpa using hn), List.getElem?_eq_none (by simpa using hn)]
theorem pick_pick {l : List B} {P : List Nat} (hP : ∀ i ∈ P, i < l.length) (Q : List Nat) (hQ : ∀ i ∈ Q, i < P.length) : pick (pick l P) Q = pick l (pick P Q) := by
  refine List.ext_getElem? fun n => ?_
  have h1 : ∀ i ∈ Q, i < (pick l P).length := fun i hi => by rw [pick_len hP]; exact hQ i hi
  by_cases hn : n < Q.length
  · have h2 : ∀ i ∈ pick P Q, i < l.length := fun i hi => by
      obtain ⟨q, _, hq⟩ := List.mem_filterMap.1 hi
      exact hP i (List.mem_of_getElem? hq)
    have h3 : n < (pick P Q).length := by rw [pick_len hQ]; exact hn
    have h4 := pick_get hQ n hn
    rw [List.getElem?_eq_getElem h3, List.getElem?_eq_getElem (hQ _ (List.getElem_mem hn))] at h4
    rw [pick_get h1 n hn, pick_get h2 n h3, pick_get hP _ (hQ _ (List.getElem_mem hn)), Option.some.inj h4]
  · rw [List.getElem?_eq_none (by rw [pick_len h1]; omega), List.getElem?_eq_none]
    rw [pick_len, pick_len hQ]; omega
    intro i hi
    obtain ⟨q, _, hq⟩ := List.mem_filterMap.1 hi
    exact hP i (List.mem_of_getElem? hq)
open Classical in
/-- The norm of a part, by the whole's places. -/
theorem norm_pick (f : B → A) (l : List B) {P : List Nat} {T : Nat → Prop} (h : Lists P T) (hP : ∀ i ∈ P, i < l.length) :
    norm f (pick l P) = pick l (P.filter fun i => decide (Kept (fun k => (l[k]?).map f) T i)) := by
  unfold norm
  have hlen := pick_len hP
  rw [hlen]
  have e1 : (List.range P.length).filter (fun i => decide (Kept (fun k => ((pick l P)[k]?).map f) (· < P.length) i)) = (List.range P.length).filter fun i => decide (Kept (fun k => (l[k]?).map f) T (P.getD i 0)) := by
    refine List.filter_congr fun i hi => ?_
    have hi' := List.mem_range.1 hi
    have := kept_at (x := fun k => (l[k]?).map f) h (y := fun k => ((pick l P)[k]?).map f) (fun i hi => by simp only [pick_get hP i hi]) hi'
    rw [List.getD_eq_getElem?_getD, List.getElem?_eq_getElem hi', Option.getD_some]
    exact decide_eq_decide.2 this
  rw [e1]
  show pick (pick l P) _ = _
  rw [pick_pick hP _ fun i hi => List.mem_range.1 (List.mem_filter.1 hi).1]
  congr 1
  -- filtering places by what lies there
  have : ∀ (q : Nat → Bool) (P : List Nat), pick P ((List.range P.length).filter fun i => q (P.getD i 0)) = P.filter q := by
    intro q P
    induction P with
    | nil => rfl
    | cons a r ih =>
      rw [List.length_cons, List.range_succ_eq_map, List.filter_cons]
      have hm : ((List.map Nat.succ (List.range r.length)).filter fun i => q ((a :: r).getD i 0)) = ((List.range r.length).filter fun i => q (r.getD i 0)).map Nat.succ := by
        rw [List.filter_map]; rfl
      rw [hm]
      have hp : ∀ Q : List Nat, pick (a :: r) (Q.map Nat.succ) = pick r Q := by
        intro Q
        unfold pick
        rw [List.filterMap_map]
        rfl
      by_cases hq : q a = true
      · rw [List.filter_cons_of_pos hq]
        simp only [List.getD_cons_zero, hq, if_true]
        show pick (a :: r) (0 :: _) = _
        unfold pick at ih hp ⊢
        rw [List.filterMap_cons_some (b := a) (by simp), hp, ih]
      · rw [List.filter_cons_of_neg hq]
        simp only [List.getD_cons_zero, hq, if_false]
        rw [← ih]; exact hp _
  exact this (fun i => decide (Kept (fun k => (l[k]?).map f) T i)) P
open Classical in
theorem norm_eq (f : B → A) (l : List B) : norm f l = pick l ((List.range l.length).filter fun i => decide (Kept (fun k => (l[k]?).map f) (· < l.length) i)) := rfl
open Classical in
/-- A part that holds all that is kept has the whole's norm. -/
theorem norm_part (f : B → A) (l : List B) {P : List Nat} {T : Nat → Prop} (h : Lists P T) (hP : ∀ i ∈ P, i < l.length) (hK : ∀ i, Kept (fun k => (l[k]?).map f) (· < l.length) i → T i) : norm f (pick l P) = norm f l := by
  rw [norm_pick f l h hP, norm_eq]
  congr 1
  have hTl : ∀ k, T k → k < l.length := fun k hk => hP k ((h.mem k).2 hk)
  have hkp := fun i => kept_part (x := fun k => (l[k]?).map f) (N := l.length) (S := (· < l.length)) (T := T) (fun k hk => hk) hTl hK i
  have hA : Lists (P.filter fun i => decide (Kept (fun k => (l[k]?).map f) T i)) fun i => Kept (fun k => (l[k]?).map f) (· < l.length) i := by
    have := h.filter fun i => decide (Kept (fun k => (l[k]?).map f) T i)
    exact ⟨this.sorted, fun i => by rw [this.mem, decide_eq_true_iff, hkp i]; exact ⟨fun h => h.2, fun h => ⟨hK i h, h⟩⟩⟩
  have hB : Lists ((List.range l.length).filter fun i => decide (Kept (fun k => (l[k]?).map f) (· < l.length) i)) fun i => Kept (fun k => (l[k]?).map f) (· < l.length) i := by
    have := (Lists.range l.length).filter fun i => decide (Kept (fun k => (l[k]?).map f) (· < l.length) i)
    exact ⟨this.sorted, fun i => by rw [this.mem, decide_eq_true_iff]; exact ⟨fun h => h.2, fun h => ⟨h.1, h⟩⟩⟩
  exact List.Perm.eq_of_pairwise (fun a b _ _ h1 h2 => by omega) hA.sorted hB.sorted ((List.perm_ext_iff_of_nodup (hA.sorted.imp fun h => Nat.ne_of_lt h) (hB.sorted.imp fun h => Nat.ne_of_lt h)).2 fun i => by rw [hA.mem, hB.mem])
end
end Go.Proofs.YtokfalcmkmelpaaHChain
