/- chain: what is marked is what is kept. -/
import Derived.Test.YtokfalcmkmelpaaHChain5
namespace Go.Proofs.YtokfalcmkmelpaaHChain
set_option linter.unusedSimpArgs false
set_option linter.unusedVariables false
open Go.Proofs.YtokfalcmkmelpaaW.PrintWords Go.Proofs.YtokfalcmkmelpaaW.PrintLast Go.Proofs.YtokfalcmkmelpaaRF Go.Proofs.YtokfalcmkmelpaaMp

theorem keq_iff {a b : Letter} : keq a b = true ↔ a = b := by
  constructor
  · intro h
    obtain ⟨a1, a2⟩ := a
    obtain ⟨b1, b2⟩ := b
    simp only [keq, Bool.and_eq_true, beq_iff_eq] at h
    obtain ⟨rfl, h2⟩ := h
    obtain rfl := toList_inj h2
    rfl
  · rintro rfl
    simp [keq]
theorem findIdx_none {k : Letter} : ∀ {L : Ents} {n : Nat}, findIdx keq k L n = none ↔ ∀ e ∈ L, k ≠ e.1
  | [], n => by simp [findIdx]
  | e :: r, n => by
    rw [findIdx]
    by_cases h : keq k e.1 = true
    · rw [if_pos h]
      exact iff_of_false (by simp) fun hh => hh e List.mem_cons_self (keq_iff.1 h)
    · rw [if_neg h, findIdx_none]
      constructor
      · intro hh x hx
        rcases List.mem_cons.1 hx with rfl | hx
        · exact fun e => h (keq_iff.2 e)
        · exact hh x hx
      · exact fun hh x hx => hh x (List.mem_cons_of_mem _ hx)
theorem fsts_snoc (ls : Nat → Lay) (is : List Int) (x : Int) : fsts ls (is ++ [x]) = fstep ls (fsts ls is) x := by simp [fsts, List.foldl_append]
theorem fsts_spec (ls : Nat → Lay) (is : List Int) : (∀ e ∈ fsts ls is, e.1 = lt ls e.2.1) ∧ (∀ q ∈ is, ∃ e ∈ fsts ls is, e.1 = lt ls q) ∧
    ∀ p, (∃ e ∈ fsts ls is, e.2.1 = p) ↔ ∃ t, ∃ ht : t < is.length, p = is[t] ∧ ∀ s, (hs : s < t) → lt ls is[s] ≠ lt ls is[t] := by
  obtain ⟨n, hn⟩ : ∃ n, is.length = n := ⟨_, rfl⟩
  induction n generalizing is with
  | zero =>
    obtain rfl := List.eq_nil_of_length_eq_zero hn
    exact ⟨fun e he => by simp [fsts] at he, fun q hq => by simp at hq, fun p => by simp [fsts]⟩
  | succ n ih =>
    obtain ⟨r, x, rfl⟩ : ∃ r x, is = r ++ [x] := ⟨is.dropLast, is.getLast (by intro h; simp [h] at hn), (List.dropLast_concat_getLast _).symm⟩
    have hr : r.length = n := by simpa using hn
    obtain ⟨h1, h2, h3⟩ := ih r hr
    rw [fsts_snoc]
    have hget : ∀ t (ht : t < r.length), (r ++ [x])[t]'(by simp; omega) = r[t] := fun t ht => List.getElem_append_left ht
    have hlast : (r ++ [x])[r.length]'(by simp) = x := by simp
    unfold fstep
    cases hf : findIdx keq (lt ls x) (fsts ls r) 0 with
    | some v =>
      simp only
      have hex : ∃ e ∈ fsts ls r, e.1 = lt ls x := by
        refine Classical.byContradiction fun hno => ?_
        have : findIdx keq (lt ls x) (fsts ls r) 0 = none := findIdx_none.2 fun e he h => hno ⟨e, he, h.symm⟩
        rw [this] at hf; cases hf
      refine ⟨h1, fun q hq => ?_, fun p => ?_⟩
      · rcases List.mem_append.1 hq with hq | hq
        · exact h2 q hq
        · rw [List.mem_singleton.1 hq]; exact hex
      · rw [h3 p]
        constructor
        · rintro ⟨t, ht, rfl, h4⟩
          refine ⟨t, by simp; omega, (hget t ht).symm, fun s hs => ?_⟩
          rw [hget s (by omega), hget t ht]; exact h4 s hs
        · rintro ⟨t, ht, rfl, h4⟩
          rw [List.length_append, List.length_singleton] at ht
          rcases Nat.lt_or_ge t r.length with h5 | h5
          · refine ⟨t, h5, hget t h5, fun s hs => ?_⟩
            have := h4 s hs
            rwa [hget s (by omega), hget t h5] at this
          · obtain rfl : t = r.length := by omega
            obtain ⟨e, he, hee⟩ := hex
            obtain ⟨s, hs, h6, _⟩ := (h3 e.2.1).1 ⟨e, he, rfl⟩
            have := h4 s hs
            rw [hget s hs, hlast, ← hee, h1 e he, h6] at this
            exact absurd rfl this
    | none =>
      simp only
      have hno := findIdx_none.1 hf
      refine ⟨fun e he => ?_, fun q hq => ?_, fun p => ?_⟩
      · rcases List.mem_append.1 he with he | he
        · exact h1 e he
        · rw [List.mem_singleton.1 he]
      · rcases List.mem_append.1 hq with hq | hq
        · obtain ⟨e, he, h⟩ := h2 q hq
          exact ⟨e, List.mem_append_left _ he, h⟩
        · rw [List.mem_singleton.1 hq]
          exact ⟨_, List.mem_append_right _ (List.mem_singleton.2 rfl), rfl⟩
      · constructor
        · rintro ⟨e, he, rfl⟩
          rcases List.mem_append.1 he with he | he
          · obtain ⟨t, ht, h4, h5⟩ := (h3 e.2.1).1 ⟨e, he, rfl⟩
            refine ⟨t, by simp; omega, by rw [hget t ht]; exact h4, fun s hs => ?_⟩
            rw [hget s (by omega), hget t ht]; exact h5 s hs
          · rw [List.mem_singleton.1 he]
            refine ⟨r.length, by simp, hlast.symm, fun s hs h => ?_⟩
            rw [hget s hs, hlast] at h
            obtain ⟨e, he, hee⟩ := h2 r[s] (List.getElem_mem hs)
            exact hno e he (by rw [hee, h])
        · rintro ⟨t, ht, rfl, h4⟩
          rw [List.length_append, List.length_singleton] at ht
          rcases Nat.lt_or_ge t r.length with h5 | h5
          · obtain ⟨e, he, h⟩ := (h3 r[t]).2 ⟨t, h5, rfl, fun s hs => by
              have := h4 s hs
              rwa [hget s (by omega), hget t h5] at this⟩
            exact ⟨e, List.mem_append_left _ he, by rw [h, hget t h5]⟩
          · obtain rfl : t = r.length := by omega
            exact ⟨_, List.mem_append_right _ (List.mem_singleton.2 rfl), by rw [hlast]⟩
theorem each_on (ls : Nat → Lay) (f : Int) : ∀ (pre : List Int) (L : Ents) (m : List Bool), (pre.foldl (estep ls f) (true, L, m)).2.1 = pre.foldl (fstep ls) L
  | [], _, _ => rfl
  | x :: r, L, m => by
    rw [List.foldl_cons, List.foldl_cons]
    cases hf : findIdx keq (lt ls x) L 0 with
    | some v => rw [estep_old (by simp) hf, each_on ls f r]; simp only [fstep, hf]
    | none => rw [estep_new (by simp) hf, each_on ls f r]; simp only [fstep, hf]
theorem each_off (ls : Nat → Lay) (f : Int) : ∀ (a b : List Int), f ∉ a → ((a ++ f :: b).foldl (estep ls f) (false, [], [])).2.1 = fsts ls (f :: b)
  | [], b, _ => by
    rw [List.nil_append, List.foldl_cons]
    have hf : findIdx keq (lt ls f) ([] : Ents) 0 = none := rfl
    rw [estep_new (by simp) hf, each_on]
    simp only [fsts, List.foldl_cons, fstep, hf]
  | x :: a, b, h => by
    rw [List.cons_append, List.foldl_cons, estep_off (by
      rw [Bool.false_or, beq_iff_eq]
      intro e; exact h (by rw [e]; exact List.mem_cons_self))]
    exact each_off ls f a b fun hh => h (List.mem_cons_of_mem _ hh)

theorem idxs_len (N : Nat) (back : Bool) : (idxs N back).length = N := by simp [idxs]
theorem idxs_get (N : Nat) (back : Bool) (t : Nat) (h : t < (idxs N back).length) : (idxs N back)[t] = idx N back t := by simp [idxs]
theorem idx_inj {N : Nat} {back : Bool} {s t : Nat} (h : idx N back s = idx N back t) : s = t := by
  unfold idx at h; split at h <;> omega
theorem eachL_at (ls : Nat → Lay) (N : Nat) (back : Bool) (t : Nat) (ht : t < N) : eachL ls N back (idx N back t) = fsts ls ((idxs N back).drop t) := by
  have hl : t < (idxs N back).length := by rw [idxs_len]; exact ht
  have h1 : idxs N back = (idxs N back).take t ++ idx N back t :: (idxs N back).drop (t + 1) := by
    conv => lhs; rw [← List.take_append_drop t (idxs N back), List.drop_eq_getElem_cons hl, idxs_get]
  unfold eachL each
  have h2 : idx N back t ∉ (idxs N back).take t := by
    intro hm
    obtain ⟨s, hs, he⟩ := List.getElem_of_mem hm
    rw [List.getElem_take, idxs_get] at he
    have := idx_inj he
    rw [List.length_take] at hs
    omega
  rw [h1, each_off ls _ _ _ h2, ← h1, List.drop_eq_getElem_cons hl, idxs_get]
theorem hits_iff (ls : Nat → Lay) (N : Nat) (back : Bool) (t i : Nat) (ht : t < N) : hits ls N back (idx N back t) i = true ↔ ∃ s, t ≤ s ∧ s < N ∧ (idx N back s).toNat = i ∧ ∀ q, t ≤ q → q < s → lt ls (idx N back q) ≠ lt ls (idx N back s) := by
  unfold hits
  rw [eachL_at ls N back t ht, List.any_eq_true]
  have h3 := (fsts_spec ls ((idxs N back).drop t)).2.2
  have hg : ∀ s (hs : s < ((idxs N back).drop t).length), ((idxs N back).drop t)[s] = idx N back (t + s) := fun s hs => by rw [List.getElem_drop, idxs_get]
  have hlen : ((idxs N back).drop t).length = N - t := by rw [List.length_drop, idxs_len]
  constructor
  · rintro ⟨e, he, hi⟩
    obtain ⟨s, hs, h4, h5⟩ := (h3 e.2.1).1 ⟨e, he, rfl⟩
    rw [hg s hs] at h4
    refine ⟨t + s, by omega, by omega, by rw [← h4]; exact beq_iff_eq.1 hi, fun q hq1 hq2 => ?_⟩
    have := h5 (q - t) (by omega)
    rwa [hg _ (by omega), hg _ hs, show t + (q - t) = q by omega] at this
  · rintro ⟨s, h1, h2, h4, h5⟩
    obtain ⟨e, he, hee⟩ := (h3 (idx N back s)).2 ⟨s - t, by omega, by rw [hg _ (by omega)]; congr 1; omega, fun q hq => by
      rw [hg _ (by omega), hg _ (by omega), show t + (s - t) = s by omega]
      exact h5 (t + q) (by omega) (by omega)⟩
    exact ⟨e, he, by rw [hee]; exact beq_iff_eq.2 h4⟩
theorem marks_iff (ls : Nat → Lay) (N : Nat) (back : Bool) (i : Nat) : ((fsts ls (idxs N back)).any fun e => true && hits ls N back e.2.1 i) = true ↔
    ∃ t s, t ≤ s ∧ s < N ∧ (idx N back s).toNat = i ∧ (∀ q, q < t → lt ls (idx N back q) ≠ lt ls (idx N back t)) ∧ ∀ q, t ≤ q → q < s → lt ls (idx N back q) ≠ lt ls (idx N back s) := by
  rw [List.any_eq_true]
  have h3 := (fsts_spec ls (idxs N back)).2.2
  constructor
  · rintro ⟨e, he, hh⟩
    rw [Bool.true_and] at hh
    obtain ⟨t, ht, h4, h5⟩ := (h3 e.2.1).1 ⟨e, he, rfl⟩
    rw [idxs_get] at h4
    rw [idxs_len] at ht
    rw [h4, hits_iff ls N back t i ht] at hh
    obtain ⟨s, h1, h2, h6, h7⟩ := hh
    refine ⟨t, s, h1, h2, h6, fun q hq => ?_, h7⟩
    have := h5 q hq
    rwa [idxs_get, idxs_get] at this
  · rintro ⟨t, s, h1, h2, h4, h5, h6⟩
    obtain ⟨e, he, hee⟩ := (h3 (idx N back t)).2 ⟨t, by rw [idxs_len]; omega, by rw [idxs_get], fun q hq => by rw [idxs_get, idxs_get]; exact h5 q hq⟩
    refine ⟨e, he, ?_⟩
    rw [Bool.true_and, hee, hits_iff ls N back t i (by omega)]
    exact ⟨s, h1, h2, h4, h6⟩
/-- A place's letter. -/
def let_ (ls : Nat → Lay) (i : Nat) : Letter := ((ls i).1, (ls i).2.1)
theorem lt_nat (ls : Nat → Lay) (i : Int) : lt ls i = let_ ls i.toNat := rfl
theorem marks_fore (ls : Nat → Lay) (N i : Nat) (hi : i < N) : ((fsts ls (idxs N false)).any fun e => true && hits ls N false e.2.1 i) = true ↔ KeptF (let_ ls) (· < N) i := by
  rw [marks_iff]
  have hx : ∀ q : Nat, idx N false q = (q : Int) := fun q => rfl
  simp only [hx, lt_nat, Int.toNat_natCast]
  constructor
  · rintro ⟨t, s, h1, h2, rfl, h4, h5⟩
    exact ⟨t, h1, Nat.lt_of_le_of_lt h1 h2, fun k _ hk => h4 k hk, fun k _ h6 h7 => h5 k h6 h7⟩
  · rintro ⟨t, h1, h2, h4, h5⟩
    exact ⟨t, i, h1, hi, rfl, fun k hk => h4 k (Nat.lt_trans hk h2) hk, fun k h6 h7 => h5 k (Nat.lt_trans h7 hi) h6 h7⟩
theorem marks_back (ls : Nat → Lay) (N i : Nat) (hi : i < N) : ((fsts ls (idxs N true)).any fun e => true && hits ls N true e.2.1 i) = true ↔ KeptB (let_ ls) (· < N) i := by
  rw [marks_iff]
  have hx : ∀ q : Nat, idx N true q = (N : Int) - 1 - q := fun q => rfl
  simp only [hx, lt_nat]
  have hn : ∀ q : Nat, ((N : Int) - 1 - q).toNat = N - 1 - q := fun q => by omega
  simp only [hn]
  constructor
  · rintro ⟨t, s, h1, h2, rfl, h4, h5⟩
    refine ⟨N - 1 - t, by omega, by show N - 1 - t < N; omega, fun k hk h6 => ?_, fun k hk h6 h7 => ?_⟩
    · have hk' : k < N := hk
      have := h4 (N - 1 - k) (by omega)
      rwa [show N - 1 - (N - 1 - k) = k by omega] at this
    · have hk' : k < N := hk
      have := h5 (N - 1 - k) (by omega) (by omega)
      rwa [show N - 1 - (N - 1 - k) = k by omega] at this
  · rintro ⟨j, h1, h2, h4, h5⟩
    have h2' : j < N := h2
    refine ⟨N - 1 - j, N - 1 - i, by omega, by omega, by omega, fun k hk => ?_, fun k h6 h7 => ?_⟩
    · rw [show N - 1 - (N - 1 - j) = j by omega]
      exact h4 _ (by show N - 1 - k < N; omega) (by omega)
    · rw [show N - 1 - (N - 1 - i) = i by omega]
      exact h5 _ (by show N - 1 - k < N; omega) (by omega) (by omega)
theorem marked_len (ls : Nat → Lay) (N : Nat) (back : Bool) (ms : List Bool) : (marked ls N back ms).length = N := by simp [marked, rowAt]
/-- What both ways mark is what is kept. -/
theorem marked_iff (ls : Nat → Lay) (N i : Nat) (hi : i < N) : (marked ls N true (marked ls N false (List.replicate N false))).getD i false = true ↔ Kept (let_ ls) (· < N) i := by
  have hg : ∀ b (ms : List Bool), (marked ls N b ms).getD i false = (ms.getD i false || (fsts ls (idxs N b)).any fun e => true && hits ls N b e.2.1 i) := fun b ms => by
    simp [marked, rowAt, hi]
  rw [hg, hg, Bool.or_eq_true, Bool.or_eq_true, marks_fore ls N i hi, marks_back ls N i hi]
  constructor
  · rintro ((h | h) | h)
    · simp [List.getD_eq_getElem?_getD, List.getElem?_replicate, hi] at h
    · exact ⟨hi, .inl h⟩
    · exact ⟨hi, .inr h⟩
  · rintro ⟨_, h | h⟩
    · exact .inl (.inr h)
    · exact .inr h
end Go.Proofs.YtokfalcmkmelpaaHChain
