/- ChainFirst's plain law: the first of one letter behind the first of another is kept; a turned chain has the turned norm. -/
import Derived.Test.YtokfalcmkmelpaaPChF
import Derived.Test.YtokfalcmkmelpaaPChM
import Derived.Test.YtokfalcmkmelpaaHChain7
import Derived.Test.YtokfalcmkmelpaaPAllx27
namespace Go.Proofs.Ytokfalcmkmelpaa.Pure
open Go.RowKit Go.Proofs.Ytokfalcmkmelpaa.PAll Go.Proofs.YtokfalcmkmelpaaW.PrintWords Go.Proofs.YtokfalcmkmelpaaW.PrintLast Go.Proofs.YtokfalcmkmelpaaHChain Go.Proofs.YtokfalcmkmelpaaEv
set_option linter.unusedSimpArgs false
set_option linter.unusedVariables false
/-- No such layer. -/
theorem beh_none (a b : Letter) : ∀ (l : List Lr) (s : Bool), (∀ i : Nat, (l[i]?).map fL = some b → s = false ∧ ∀ j : Nat, j ≤ i → (l[j]?).map fL ≠ some a) → beh a b s l = 0
  | [], _, _ => rfl
  | x :: r, s, h => by
    rw [beh]
    have h0 := h 0
    rw [if_neg]
    · refine beh_none a b r _ fun i hi => ?_
      have h1 := h (i + 1) (by simpa using hi)
      have h2 := h1.2 0 (by omega)
      have h3 : fL x ≠ a := fun e => h2 (by simp [e])
      refine ⟨by simp [h1.1, h3], fun j hj => ?_⟩
      have := h1.2 (j + 1) (by omega)
      simpa using this
    · intro hc
      rw [Bool.and_eq_true, decide_eq_true_iff, Bool.or_eq_true, decide_eq_true_iff] at hc
      have h1 := h0 (by simp [hc.2])
      rcases hc.1 with h2 | h2
      · rw [h1.1] at h2; cases h2
      · exact h1.2 0 (Nat.le_refl _) (by simp [h2])
/-- The first such layer. -/
theorem beh_some (a b : Letter) : ∀ (l : List Lr) (s : Bool) (i : Nat) (v : Lr), l[i]? = some v → fL v = b → (s = true ∨ ∃ j : Nat, j ≤ i ∧ (l[j]?).map fL = some a) →
    (∀ k : Nat, k < i → (l[k]?).map fL = some b → s = false ∧ ∀ j : Nat, j ≤ k → (l[j]?).map fL ≠ some a) → beh a b s l = v.f2
  | [], _, i, _, h, _, _, _ => by simp at h
  | x :: r, s, 0, v, h, hv, hs, _ => by
    obtain rfl : x = v := by simpa using h
    rw [beh, if_pos]
    rw [Bool.and_eq_true, decide_eq_true_iff, Bool.or_eq_true, decide_eq_true_iff]
    refine ⟨?_, hv⟩
    rcases hs with h1 | ⟨j, hj, h1⟩
    · exact .inl h1
    · obtain rfl : j = 0 := by omega
      exact .inr (by simpa using h1)
  | x :: r, s, i + 1, v, h, hv, hs, hk => by
    rw [beh, if_neg]
    · refine beh_some a b r _ i v (by simpa using h) hv ?_ fun k hki hkb => ?_
      · rcases hs with h1 | ⟨j, hj, h1⟩
        · exact .inl (by simp [h1])
        · rcases Nat.eq_zero_or_pos j with rfl | hj0
          · exact .inl (by
              have : fL x = a := by simpa using h1
              simp [this])
          · exact .inr ⟨j - 1, by omega, by
              obtain ⟨m, rfl⟩ : ∃ m, j = m + 1 := ⟨j - 1, by omega⟩
              simpa using h1⟩
      · obtain ⟨h1, h2⟩ := hk (k + 1) (by omega) (by simpa using hkb)
        have h3 := h2 0 (by omega)
        refine ⟨by
          have : fL x ≠ a := fun e => h3 (by simp [e])
          simp [h1, this], fun j hj => ?_⟩
        have := h2 (j + 1) (by omega)
        simpa using this
    · intro hc
      rw [Bool.and_eq_true, decide_eq_true_iff, Bool.or_eq_true, decide_eq_true_iff] at hc
      obtain ⟨h1, h2⟩ := hk 0 (by omega) (by simp [hc.2])
      rcases hc.1 with h3 | h3
      · rw [h1] at h3; cases h3
      · exact h2 0 (Nat.le_refl _) (by simp [h3])
/-- A chain and its norm tell the same. -/
theorem beh_norm (a b : Letter) (l : List Lr) : beh a b false (norm fL l) = beh a b false l := by
  obtain ⟨P, hn, hP, hL⟩ := norm_lists fL l
  rw [hn]
  obtain ⟨x, hx⟩ : ∃ x : Nat → Option Letter, x = fun k => (l[k]?).map fL := ⟨_, rfl⟩
  rw [← hx] at hL
  have hxl : ∀ k c, x k = some c → k < l.length := by
    intro k c h
    rw [hx] at h
    refine Classical.byContradiction fun hk => ?_
    simp [List.getElem?_eq_none (by omega : l.length ≤ k)] at h
  have hpg : ∀ m (hm : m < P.length), ((pick l P)[m]?).map fL = x P[m] := fun m hm => by rw [pick_get hP m hm, hx]
  have hpn : ∀ m, P.length ≤ m → ((pick l P)[m]?).map fL = none := fun m hm => by rw [List.getElem?_eq_none (by rw [pick_len hP]; exact hm)]; rfl
  -- who is meant
  obtain ⟨T, hT⟩ : ∃ T : Nat → Prop, T = fun i => x i = some b ∧ ∃ j, j ≤ i ∧ x j = some a := ⟨_, rfl⟩
  have hTP : ∀ m (hm : m < P.length), (((pick l P)[m]?).map fL = some b) → ∀ j, j ≤ m → ((pick l P)[j]?).map fL = some a → T P[m] := by
    intro m hm h1 j hj h2
    rw [hpg m hm] at h1
    rw [hpg j (by omega)] at h2
    rw [hT]
    exact ⟨h1, P[j], (hL.at_le (by omega) hm).2 hj, h2⟩
  by_cases hex : ∃ i, T i
  · obtain ⟨i, hi⟩ := hex
    obtain ⟨i0, _, hi0, hmin⟩ := least (p := T) hi
    have hi0' := hi0
    rw [hT] at hi0'
    obtain ⟨hb, j, hj, hja⟩ := hi0'
    obtain ⟨j0, hj0, hj0a, hj0m⟩ := least (p := fun j => x j = some a) hja
    have hk0 : Go.Proofs.YtokfalcmkmelpaaHChain.Kept x (· < l.length) j0 := kept_first (hxl _ _ hj0a) fun k _ hk e => hj0m k hk (e.trans hj0a)
    have hki : Go.Proofs.YtokfalcmkmelpaaHChain.Kept x (· < l.length) i0 := ⟨hxl _ _ hb, .inl ⟨j0, by omega, hxl _ _ hj0a, fun k _ hk e => hj0m k hk (e.trans hj0a), fun k _ h1 h2 e => hmin k h2 (by rw [hT]; exact ⟨e.trans hb, j0, h1, hj0a⟩)⟩⟩
    obtain ⟨n0, hn0, he⟩ := List.getElem_of_mem ((hL.mem i0).2 hki)
    obtain ⟨m0, hm0, hem⟩ := List.getElem_of_mem ((hL.mem j0).2 hk0)
    obtain ⟨v, hv, hvb⟩ : ∃ v, l[i0]? = some v ∧ fL v = b := by
      have := hb
      rw [hx] at this
      obtain ⟨v, hv, hvb⟩ := Option.map_eq_some_iff.1 this
      exact ⟨v, hv, hvb⟩
    rw [beh_some a b (pick l P) false n0 v (by rw [pick_get hP n0 hn0, he, hv]) hvb (.inr ⟨m0, by
        have := hL.at_le hm0 hn0
        rw [he, hem] at this
        exact this.1 (by omega), by rw [hpg m0 hm0, hem]; exact hj0a⟩) fun k hk hkb => ⟨rfl, fun j hj hja => hmin P[k] (by
          rw [← he]; exact (hL.at_lt (by omega) hn0).2 hk) (hTP k (by omega) hkb j hj hja)⟩]
    rw [beh_some a b l false i0 v hv hvb (.inr ⟨j, hj, by rw [hx] at hja; exact hja⟩) fun k hk hkb => ⟨rfl, fun j hj hja => hmin k hk (by rw [hT, hx]; exact ⟨hkb, j, hj, hja⟩)⟩]
  · rw [beh_none a b (pick l P) false fun m hm => ⟨rfl, fun j hj hja => ?_⟩, beh_none a b l false fun i hi => ⟨rfl, fun j hj hja => hex ⟨i, by rw [hT, hx]; exact ⟨hi, j, hj, hja⟩⟩⟩]
    rcases Nat.lt_or_ge m P.length with hml | hml
    · exact hex ⟨_, hTP m hml hm j hj hja⟩
    · rw [hpn m hml] at hm; cases hm
theorem ChainFirst : chaperonlaw10_ChainFirst.Pure := by
  intro l0 a1 a2 hm _ _ _ _
  refine Evn.ex (Evn.bind (h := fun k (t : Bool) => if (l0.length : Int) > 60 then some t else _) known_ev ?_)
  by_cases h60 : (l0.length : Int) > 60
  · exact Evn.pos h60 (Evn.ret _)
  · refine Evn.neg h60 ?_
    obtain ⟨c, hc, hcl⟩ : ∃ c, Evn (fun k => chaperonlaw10_made.f k l0) c ∧ c.length = l0.length := by
      obtain ⟨c, hc, hcl⟩ := made l0 (by omega) (l0.length + 1) (by omega)
      exact ⟨c, ⟨l0.length + 1, fun k hk => at_rounds (g := fun k => chaperonlaw10_made.f k l0) (fun k => chaperonlaw10_made.mono l0 k) hk hc⟩, hcl⟩
    obtain ⟨e, he, hel⟩ : ∃ c, Evn (fun k => chaperonlaw10_made.f k [a1, a2]) c ∧ c.length = 2 := by
      obtain ⟨c, hc, hcl⟩ := made [a1, a2] (by simp) 3 (by simp)
      exact ⟨c, ⟨3, fun k hk => at_rounds (g := fun k => chaperonlaw10_made.f k [a1, a2]) (fun k => chaperonlaw10_made.mono [a1, a2] k) hk hc⟩, hcl⟩
    have hn := norm_len fL c
    have hcl2 : c.length < 4294967296 := by omega
    have hnl2 : (norm fL c).length < 4294967296 := by omega
    have hb := fun (l : List Lr) (h : l.length < 4294967296) x0 x1 x2 y0 y1 y2 => (⟨l.length + 1, fun k hk => behind l h x0 x1 x2 y0 y1 y2 k (by omega)⟩ : Evn (fun k => chaperonlaw10_behind.f k l x0 x1 x2 y0 y1 y2) (beh (x0, x1) (y0, y1) false l))
    have ht := fun (l : List Lr) (h : l.length < 4294967296) => (⟨l.length + 1, fun k hk => turned l h k (by omega)⟩ : Evn (fun k => chaperonlaw10_turned.f k l) l.reverse)
    have hs : Evn (fun k => chaperonkit_SameLayers.f k (norm fL c.reverse) (norm fL c).reverse) true := by
      rw [norm_turned]
      exact ⟨(norm fL c).length + 1, fun k hk => same _ (by simp; omega) k (by simp; omega)⟩
    refine Evn.bind hc (Evn.cbind (Norm_is c (by omega)) (Evn.bind he (Evn.pos (by omega) (Evn.pos (by omega) (Evn.bind (hb c hcl2 _ _ _ _ _ _) (Evn.bind (hb _ hnl2 _ _ _ _ _ _) (Evn.pos (beh_norm _ _ _).symm (Evn.bind (ht c hcl2) (Evn.bind (hb c.reverse (by simpa using hcl2) _ _ _ _ _ _) (Evn.bind (ht _ hnl2) (Evn.bind (hb _ (by simpa using hnl2) _ _ _ _ _ _) ?_)))))))))))
    rw [← norm_turned, beh_norm, bne_self_eq_false]
    exact Evn.succ (Evn.bind (ht c hcl2) (Evn.cbind (Norm_is _ (by rw [List.length_reverse]; omega)) (Evn.bind (ht _ hnl2) (Evn.bind hs (Evn.ret _)))))
end Go.Proofs.Ytokfalcmkmelpaa.Pure
