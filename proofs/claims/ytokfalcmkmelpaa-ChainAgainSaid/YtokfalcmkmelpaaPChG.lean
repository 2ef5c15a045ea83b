/- chain: a chain and its norm: first and last ones, classes on the way. -/
import Derived.Test.YtokfalcmkmelpaaPCh
import Derived.Test.YtokfalcmkmelpaaPChC
import Derived.Test.YtokfalcmkmelpaaHChain7
import Derived.Test.YtokfalcmkmelpaaPAllx11
namespace Go.Proofs.Ytokfalcmkmelpaa.Pure
open Go.RowKit Go.Proofs.Ytokfalcmkmelpaa.PAll Go.Proofs.YtokfalcmkmelpaaW.PrintWords Go.Proofs.YtokfalcmkmelpaaW.PrintLast Go.Proofs.YtokfalcmkmelpaaHChain Go.Proofs.YtokfalcmkmelpaaEv
set_option linter.unusedSimpArgs false
set_option linter.unusedVariables false
theorem norm_ends (l : List Lr) (hl : l ≠ []) : norm fL l ≠ [] ∧ (norm fL l)[0]? = l[0]? ∧ (norm fL l)[(norm fL l).length - 1]? = l[l.length - 1]? := by
  obtain ⟨P, hn, hP, hL⟩ := norm_lists fL l
  have hpos : 0 < l.length := List.length_pos_iff.2 hl
  have h0 := (hL.mem 0).2 (kept_first hpos fun k _ hk => absurd hk (by omega))
  have h1 := (hL.mem (l.length - 1)).2 (kept_last (show l.length - 1 < l.length by omega) fun k hk hk2 => by
    have : k < l.length := hk
    omega)
  obtain ⟨a, ha, ea⟩ := List.getElem_of_mem h0
  obtain ⟨b, hb, eb⟩ := List.getElem_of_mem h1
  have hPl : 0 < P.length := by omega
  have e0 : P[0] = 0 := by
    have := (hL.at_le hPl ha).2 (Nat.zero_le _)
    omega
  have e1 : P[P.length - 1]'(by omega) = l.length - 1 := by
    have h2 := (hL.at_le hb (show P.length - 1 < P.length by omega)).2 (by omega)
    have h3 := hP _ (List.getElem_mem (show P.length - 1 < P.length by omega))
    omega
  rw [hn, pick_len hP]
  refine ⟨fun h => ?_, ?_, ?_⟩
  · have := pick_len (l := l) hP
    rw [h] at this
    simp at this
    omega
  · rw [pick_get hP 0 hPl, e0]
  · rw [pick_get hP (P.length - 1) (by omega), e1]
open Classical in
theorem cls_sel : ∀ (l : List Lr) (s : List Bool) (o : List ByteArray), l.length = s.length → (∀ i (h : i < l.length), s.getD i false = false → l[i].f1 ∈ o ∨ ∃ k, ∃ hk : k < i, l[k].f1 = l[i].f1) → cls o (chain_Norm.sel l s) = cls o l
  | [], [], _, _, _ => rfl
  | [], _ :: _, _, h, _ => by simp at h
  | _ :: _, [], _, h, _ => by simp at h
  | x :: r, b :: s, o, hl, h => by
    have hl' : r.length = s.length := by simpa using hl
    cases b
    · have hx : x.f1 ∈ o := by
        rcases h 0 (by simp) (by simp) with h1 | ⟨k, hk, _⟩
        · exact h1
        · omega
      rw [chain_Norm.sel, if_neg (by simp), cls, if_pos hx]
      refine cls_sel r s o hl' fun i hi hs => ?_
      rcases h (i + 1) (by simpa using hi) (by simpa using hs) with h1 | ⟨k, hk, h1⟩
      · exact .inl (by simpa using h1)
      · cases k with
        | zero =>
          have h2 : x.f1 = r[i].f1 := by simpa using h1
          exact .inl (h2 ▸ hx)
        | succ k => exact .inr ⟨k, by omega, by simpa using h1⟩
    · rw [chain_Norm.sel, if_pos rfl, cls, cls]
      refine cls_sel r s _ hl' fun i hi hs => ?_
      have hsub : ∀ c, c ∈ o ∨ c = x.f1 → c ∈ (if x.f1 ∈ o then o else o ++ [x.f1]) := by
        rintro c (hc | rfl)
        · split
          · exact hc
          · exact List.mem_append_left _ hc
        · split
          · assumption
          · exact List.mem_append_right _ (List.mem_singleton.2 rfl)
      rcases h (i + 1) (by simpa using hi) (by simpa using hs) with h1 | ⟨k, hk, h1⟩
      · exact .inl (hsub _ (.inl (by simpa using h1)))
      · cases k with
        | zero => exact .inl (hsub _ (.inr (by simpa using h1.symm)))
        | succ k => exact .inr ⟨k, by omega, by simpa using h1⟩
theorem cls_norm (o : List ByteArray) (l : List Lr) : cls o (norm fL l) = cls o l := by
  rw [← norm_is]
  refine cls_sel l _ o (by rw [chain_Norm.ms, marked_len]) fun i hi hs => .inr ?_
  refine Classical.byContradiction fun hno => ?_
  have hk : Go.Proofs.YtokfalcmkmelpaaHChain.Kept (let_ (chain_Norm.lay l)) (· < l.length) i := kept_first hi fun k hkl hki e => hno ⟨k, hki, by
    have hkl' : k < l.length := hkl
    have e2 := congrArg Prod.snd e
    simp [let_, chain_Norm.lay, hkl', hi] at e2
    exact e2⟩
  rw [chain_Norm.ms, (marked_iff _ _ _ hi).2 hk] at hs
  cases hs
theorem seen_norm (a : ByteArray) (l : List Lr) (hl : l.length < 4294967296) : ∃ s, chain_Seen.f a l = some s ∧ chain_Seen.f a (norm fL l) = some s := by
  by_cases h : l = []
  · subst h
    have h0 : norm fL ([] : List Lr) = [] := List.eq_nil_of_length_eq_zero (by have := norm_len fL ([] : List Lr); simpa using this)
    rw [h0]
    exact ⟨a, rfl, rfl⟩
  · obtain ⟨h1, _, h3⟩ := norm_ends l h
    have hn := norm_len fL l
    have hs : ∀ m : List Lr, m ≠ [] → m.length < 4294967296 → chain_Seen.f a m = (m[m.length - 1]?).map (·.f1) := by
      intro m hm hml
      have hp : 0 < m.length := List.length_pos_iff.2 hm
      have hw : wrap64 ((m.length : Int) - 1) = ((m.length - 1 : Nat) : Int) := by unfold wrap64; omega
      unfold chain_Seen.f
      rw [if_neg (by omega), hw, if_pos (by omega), if_pos (by omega), rdT m (m.length - 1) (by omega), List.getElem?_eq_getElem (by omega)]
      rfl
    have hp : 0 < l.length := List.length_pos_iff.2 h
    rw [hs l h hl, hs _ h1 (by omega), h3, List.getElem?_eq_getElem (by omega)]
    exact ⟨_, rfl, rfl⟩
end Go.Proofs.Ytokfalcmkmelpaa.Pure
