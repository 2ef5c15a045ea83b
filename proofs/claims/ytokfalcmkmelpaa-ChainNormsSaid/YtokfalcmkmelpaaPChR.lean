/- chain: the document's norm is the norm. -/
import Derived.Test.YtokfalcmkmelpaaPCh
import Derived.Test.YtokfalcmkmelpaaEv
import Derived.Test.YtokfalcmkmelpaaPAllx15
import Derived.Test.YtokfalcmkmelpaaPAllx16
import Derived.Test.YtokfalcmkmelpaaPAllx17
import Derived.Test.YtokfalcmkmelpaaPAllx18
import Derived.Test.YtokfalcmkmelpaaPAllx19
namespace Go.Proofs.Ytokfalcmkmelpaa.Pure
open Go.RowKit Go.Proofs.Ytokfalcmkmelpaa.PAll Go.Proofs.YtokfalcmkmelpaaW.PrintWords Go.Proofs.YtokfalcmkmelpaaW.PrintLast Go.Proofs.YtokfalcmkmelpaaHChain Go.Proofs.YtokfalcmkmelpaaEv
set_option linter.unusedSimpArgs false
set_option linter.unusedVariables false
open Classical in
theorem alike (x y : Lr) : chaperonref10_alike.f x.f0 x.f1 x.f2 y.f0 y.f1 y.f2 = some (decide (fL x = fL y)) := by
  unfold chaperonref10_alike.f
  by_cases h : x.f0 = y.f0
  · rw [if_pos (beq_iff_eq.2 h)]
    congr 1
    rw [Bool.eq_iff_iff, beq_iff_eq, toL, decide_eq_true_iff]
    simp [fL, h]
  · rw [if_neg (by simpa using h)]
    congr 1
    exact (decide_eq_false fun e => h (congrArg Prod.fst e)).symm
open Classical in
theorem first_l (l : List Lr) (hl : l.length < 4294967296) (a : Lr) : ∀ (d i : Nat), d = l.length - i → i ≤ l.length →
    ∃ r : Int, Evn (fun k => chaperonref10_first.l0 k l (i : Int) a.f0 a.f1 a.f2) r ∧ ((r = -1 ∧ ∀ j, i ≤ j → ∀ h : j < l.length, fL l[j] ≠ fL a) ∨ ∃ m : Nat, r = m ∧ i ≤ m ∧ (∃ h : m < l.length, fL l[m] = fL a) ∧ ∀ j, i ≤ j → j < m → ∀ h : j < l.length, fL l[j] ≠ fL a) := by
  intro d
  induction d with
  | zero =>
    intro i hd hi
    exact ⟨-1, Evn.succ (Evn.neg (by omega) (Evn.ret _)), .inl ⟨rfl, fun j hj h => by omega⟩⟩
  | succ d ih =>
    intro i hd hi
    have h : i < l.length := by omega
    by_cases he : fL l[i] = fL a
    · refine ⟨i, Evn.succ (Evn.pos (by omega) (Evn.pos (by omega) (Evn.cbind (h := fun k (t : Bool) => if t = true then some (i : Int) else chaperonref10_first.l0 k l (wrap64 ((i : Int) + 1)) a.f0 a.f1 a.f2) (by rw [rdT l i h]; exact alike _ _) (Evn.pos (by simpa using he) (Evn.ret _))))), .inr ⟨i, rfl, Nat.le_refl _, ⟨h, he⟩, fun j h1 h2 => by omega⟩⟩
    · obtain ⟨r, h1, h2⟩ := ih (i + 1) (by omega) (by omega)
      refine ⟨r, Evn.succ (Evn.pos (by omega) (Evn.pos (by omega) (Evn.cbind (h := fun k (t : Bool) => if t = true then some (i : Int) else chaperonref10_first.l0 k l (wrap64 ((i : Int) + 1)) a.f0 a.f1 a.f2) (by rw [rdT l i h]; exact alike _ _) (Evn.neg (by simpa using he) (by rw [w1 h (by omega)]; exact h1))))), ?_⟩
      have hne : ∀ j, i ≤ j → j < i + 1 → ∀ h : j < l.length, fL l[j] ≠ fL a := fun j h3 h4 h5 => by have hji : j = i := (by omega); subst hji; exact he
      rcases h2 with ⟨h3, h4⟩ | ⟨m, h3, h4, h5, h6⟩
      · exact .inl ⟨h3, fun j hj hjl => by
          rcases Nat.lt_or_ge j (i + 1) with h7 | h7
          · exact hne j hj h7 hjl
          · exact h4 j h7 hjl⟩
      · exact .inr ⟨m, h3, by omega, h5, fun j hj hjm hjl => by
          rcases Nat.lt_or_ge j (i + 1) with h7 | h7
          · exact hne j hj h7 hjl
          · exact h6 j h7 hjm hjl⟩
open Classical in
theorem last_l (l : List Lr) (hl : l.length < 4294967296) (a : Lr) : ∀ (i : Nat), i ≤ l.length →
    ∃ r : Int, Evn (fun k => chaperonref10_last.l0 k l ((i : Int) - 1) a.f0 a.f1 a.f2) r ∧ ((r = -1 ∧ ∀ j, j < i → ∀ h : j < l.length, fL l[j] ≠ fL a) ∨ ∃ m : Nat, r = m ∧ m < i ∧ (∃ h : m < l.length, fL l[m] = fL a) ∧ ∀ j, m < j → j < i → ∀ h : j < l.length, fL l[j] ≠ fL a) := by
  intro i
  induction i with
  | zero =>
    intro hi
    exact ⟨-1, Evn.succ (Evn.neg (by omega) (Evn.ret _)), .inl ⟨rfl, fun j hj h => by omega⟩⟩
  | succ i ih =>
    intro hi
    have h : i < l.length := by omega
    have e1 : ((i + 1 : Nat) : Int) - 1 = (i : Int) := by omega
    have e2 : wrap64 ((i : Int) - 1) = (i : Int) - 1 := by unfold wrap64; omega
    rw [e1]
    by_cases he : fL l[i] = fL a
    · refine ⟨i, Evn.succ (Evn.pos (by omega) (Evn.pos (by omega) (Evn.pos (by omega) (Evn.cbind (h := fun k (t : Bool) => if t = true then some (i : Int) else chaperonref10_last.l0 k l (wrap64 ((i : Int) - 1)) a.f0 a.f1 a.f2) (by rw [rdT l i h]; exact alike _ _) (Evn.pos (by simpa using he) (Evn.ret _)))))), .inr ⟨i, rfl, by omega, ⟨h, he⟩, fun j h1 h2 => by omega⟩⟩
    · obtain ⟨r, h1, h2⟩ := ih (by omega)
      refine ⟨r, Evn.succ (Evn.pos (by omega) (Evn.pos (by omega) (Evn.pos (by omega) (Evn.cbind (h := fun k (t : Bool) => if t = true then some (i : Int) else chaperonref10_last.l0 k l (wrap64 ((i : Int) - 1)) a.f0 a.f1 a.f2) (by rw [rdT l i h]; exact alike _ _) (Evn.neg (by simpa using he) (by rw [e2]; exact h1)))))), ?_⟩
      rcases h2 with ⟨h3, h4⟩ | ⟨m, h3, h4, h5, h6⟩
      · exact .inl ⟨h3, fun j hj hjl => by
          rcases Nat.lt_or_ge j i with h7 | h7
          · exact h4 j h7 hjl
          · obtain rfl : j = i := by omega
            exact he⟩
      · exact .inr ⟨m, h3, by omega, h5, fun j hj hjm hjl => by
          rcases Nat.lt_or_ge j i with h7 | h7
          · exact h6 j hj h7 hjl
          · obtain rfl : j = i := by omega
            exact he⟩
theorem first_ev (l : List Lr) (hl : l.length < 4294967296) (a : Lr) (i : Nat) (hi : i ≤ l.length) :
    ∃ r : Int, Evn (fun k => chaperonref10_first.f k l a.f0 a.f1 a.f2 (i : Int)) r ∧ ((r = -1 ∧ ∀ j, i ≤ j → ∀ h : j < l.length, fL l[j] ≠ fL a) ∨ ∃ m : Nat, r = m ∧ i ≤ m ∧ (∃ h : m < l.length, fL l[m] = fL a) ∧ ∀ j, i ≤ j → j < m → ∀ h : j < l.length, fL l[j] ≠ fL a) :=
  first_l l hl a _ i rfl hi
theorem last_ev (l : List Lr) (hl : l.length < 4294967296) (a : Lr) (i : Nat) (hi : i ≤ l.length) :
    ∃ r : Int, Evn (fun k => chaperonref10_last.f k l a.f0 a.f1 a.f2 ((i : Int) - 1)) r ∧ ((r = -1 ∧ ∀ j, j < i → ∀ h : j < l.length, fL l[j] ≠ fL a) ∨ ∃ m : Nat, r = m ∧ m < i ∧ (∃ h : m < l.length, fL l[m] = fL a) ∧ ∀ j, m < j → j < i → ∀ h : j < l.length, fL l[j] ≠ fL a) :=
  last_l l hl a i hi
theorem wl {n : Nat} (hn : n < 4294967296) : wrap64 ((n : Int) - 1) = (n : Int) - 1 := by unfold wrap64; omega
/-- The letters, by place. -/
def xs (l : List Lr) (k : Nat) : Option Letter := (l[k]?).map fL
theorem xs_at (l : List Lr) {k : Nat} (h : k < l.length) : xs l k = some (fL l[k]) := by simp [xs, h]
theorem xs_ne (l : List Lr) {i k : Nat} (hi : i < l.length) (hk : k < l.length) : xs l i ≠ xs l k ↔ fL l[i] ≠ fL l[k] := by
  rw [xs_at l hi, xs_at l hk, ne_eq, Option.some.injEq]
/-- 'at' is told forwards from the first one of l[i]'s letter. -/
def FA (l : List Lr) (a i : Nat) : Prop := ∃ m, m ≤ a ∧ m < l.length ∧ xs l m = xs l i ∧ (∀ k, k < m → xs l k ≠ xs l m) ∧ ∀ k, m ≤ k → k < a → xs l k ≠ xs l a
def BA (l : List Lr) (a i : Nat) : Prop := ∃ m, a ≤ m ∧ m < l.length ∧ xs l m = xs l i ∧ (∀ k, k < l.length → m < k → xs l k ≠ xs l m) ∧ ∀ k, a < k → k ≤ m → xs l k ≠ xs l a
open Classical in
theorem kept_l (l : List Lr) (hl : l.length < 4294967296) (a : Nat) (ha : a < l.length) : ∀ (d i : Nat), d = l.length - i → i ≤ l.length →
    Evn (fun k => chaperonref10_kept.l0 k l (a : Int) (i : Int)) (decide (∃ j, i ≤ j ∧ j < l.length ∧ (FA l a j ∨ BA l a j))) := by
  intro d
  induction d with
  | zero =>
    intro i hd hi
    refine Evn.succ (Evn.neg (by omega) ((Evn.ret _).val ?_))
    exact (decide_eq_false fun ⟨j, h1, h2, _⟩ => by omega).symm
  | succ d ih =>
    intro i hd hi
    have h : i < l.length := by omega
    have hd1 : d = l.length - (i + 1) := by omega
    -- forwards
    obtain ⟨r1, e1, f1⟩ := first_ev l hl l[i] 0 (by omega)
    obtain ⟨m1, rfl, _, ⟨hm1, hm1a⟩, hm1b⟩ : ∃ m : Nat, r1 = m ∧ 0 ≤ m ∧ (∃ h : m < l.length, fL l[m] = fL l[i]) ∧ ∀ j, 0 ≤ j → j < m → ∀ h : j < l.length, fL l[j] ≠ fL l[i] := by
      rcases f1 with ⟨_, h2⟩ | h2
      · exact absurd rfl (h2 i (by omega) h)
      · exact h2
    obtain ⟨r2, e2, f2⟩ := first_ev l hl l[a] m1 (by omega)
    have hF : r2 = (a : Int) ↔ FA l a i := by
      constructor
      · intro hr
        rcases f2 with ⟨h1, _⟩ | ⟨m, h1, h2, ⟨h3, h4⟩, h5⟩
        · omega
        · obtain rfl : m = a := by omega
          refine ⟨m1, h2, hm1, by rw [xs_at l hm1, xs_at l h, hm1a], fun k hk => ?_, fun k hk1 hk2 => ?_⟩
          · rw [xs_ne l (by omega) hm1, hm1a]; exact hm1b k (by omega) hk (by omega)
          · rw [xs_ne l (by omega) ha]; exact h5 k hk1 hk2 (by omega)
      · rintro ⟨m, h1, h2, h3, h4, h5⟩
        have hmm : m = m1 := by
          rcases Nat.lt_trichotomy m m1 with h6 | h6 | h6
          · rw [xs_at l h2, xs_at l h, Option.some.injEq] at h3
            exact absurd h3 (hm1b m (by omega) h6 h2)
          · exact h6
          · refine absurd ?_ (h4 m1 h6)
            rw [h3, xs_at l hm1, xs_at l h, hm1a]
        subst hmm
        rcases f2 with ⟨_, h7⟩ | ⟨n, h6, h7, ⟨h8, h9⟩, h10⟩
        · exact absurd rfl (h7 a h1 ha)
        · rcases Nat.lt_trichotomy n a with h11 | h11 | h11
          · have := h5 n h7 h11
            rw [xs_ne l h8 ha] at this
            exact absurd h9 this
          · omega
          · exact absurd rfl (h10 a h1 h11 ha)
    -- backwards
    obtain ⟨r3, e3, f3⟩ := last_ev l hl l[i] l.length (by omega)
    obtain ⟨m3, rfl, hm3l, ⟨hm3, hm3a⟩, hm3b⟩ : ∃ m : Nat, r3 = m ∧ m < l.length ∧ (∃ h : m < l.length, fL l[m] = fL l[i]) ∧ ∀ j, m < j → j < l.length → ∀ h : j < l.length, fL l[j] ≠ fL l[i] := by
      rcases f3 with ⟨_, h2⟩ | h2
      · exact absurd rfl (h2 i h h)
      · exact h2
    obtain ⟨r4, e4, f4⟩ := last_ev l hl l[a] (m3 + 1) (by omega)
    have hB : r4 = (a : Int) ↔ BA l a i := by
      constructor
      · intro hr
        rcases f4 with ⟨h1, _⟩ | ⟨m, h1, h2, ⟨h3, h4⟩, h5⟩
        · omega
        · obtain rfl : m = a := by omega
          refine ⟨m3, by omega, hm3, by rw [xs_at l hm3, xs_at l h, hm3a], fun k hk hk2 => ?_, fun k hk1 hk2 => ?_⟩
          · rw [xs_ne l hk hm3, hm3a]; exact hm3b k hk2 hk hk
          · rw [xs_ne l (by omega) ha]; exact h5 k hk1 (by omega) (by omega)
      · rintro ⟨m, h1, h2, h3, h4, h5⟩
        have hmm : m = m3 := by
          rcases Nat.lt_trichotomy m m3 with h6 | h6 | h6
          · refine absurd ?_ (h4 m3 hm3 h6)
            rw [h3, xs_at l hm3, xs_at l h, hm3a]
          · exact h6
          · rw [xs_at l h2, xs_at l h, Option.some.injEq] at h3
            exact absurd h3 (hm3b m h6 h2 h2)
        subst hmm
        rcases f4 with ⟨_, h7⟩ | ⟨n, h6, h7, ⟨h8, h9⟩, h10⟩
        · exact absurd rfl (h7 a (by omega) ha)
        · rcases Nat.lt_trichotomy n a with h11 | h11 | h11
          · exact absurd rfl (h10 a h11 (by omega) ha)
          · omega
          · have := h5 n h11 (by omega)
            rw [xs_ne l h8 ha] at this
            exact absurd h9 this
    have e4' : Evn (fun k => chaperonref10_last.f k l l[a].f0 l[a].f1 l[a].f2 (m3 : Int)) r4 := by
      have := e4
      rwa [show (((m3 + 1 : Nat) : Int) - 1) = (m3 : Int) by omega] at this
    refine Evn.succ (Evn.pos (by omega) (Evn.pos (by omega) (Evn.pos (by omega) (Evn.pos (by omega) ?_))))
    rw [rdT l i h, rdT l a ha, wl hl, w1 h (by omega)]
    refine Evn.bind e1 (Evn.bind e2 ?_)
    by_cases hr2 : r2 = (a : Int)
    · refine Evn.pos hr2 ((Evn.ret _).val ?_)
      exact (decide_eq_true ⟨i, Nat.le_refl _, h, .inl (hF.1 hr2)⟩).symm
    · refine Evn.neg hr2 (Evn.bind e3 (Evn.bind e4' ?_))
      by_cases hr4 : r4 = (a : Int)
      · refine Evn.pos hr4 ((Evn.ret _).val ?_)
        exact (decide_eq_true ⟨i, Nat.le_refl _, h, .inr (hB.1 hr4)⟩).symm
      · refine Evn.neg hr4 ((ih (i + 1) hd1 h).val ?_)
        refine decide_eq_decide.2 ⟨fun ⟨j, h1, h2, h3⟩ => ⟨j, by omega, h2, h3⟩, fun ⟨j, h1, h2, h3⟩ => ?_⟩
        rcases Nat.lt_or_ge i j with h5 | h5
        · exact ⟨j, h5, h2, h3⟩
        · obtain rfl : j = i := by omega
          rcases h3 with h3 | h3
          · exact absurd (hF.2 h3) hr2
          · exact absurd (hB.2 h3) hr4
open Classical in
theorem kept_ev (l : List Lr) (hl : l.length < 4294967296) (a : Nat) (ha : a < l.length) : Evn (fun k => chaperonref10_kept.f k l (a : Int)) (decide (Go.Proofs.YtokfalcmkmelpaaHChain.Kept (xs l) (· < l.length) a)) := by
  refine (kept_l l hl a ha l.length 0 (by omega) (by omega)).val (decide_eq_decide.2 ?_)
  constructor
  · rintro ⟨j, _, hj, ⟨m, h1, h2, h3, h4, h5⟩ | ⟨m, h1, h2, h3, h4, h5⟩⟩
    · exact ⟨ha, .inl ⟨m, h1, h2, fun k _ => h4 k, fun k _ => h5 k⟩⟩
    · exact ⟨ha, .inr ⟨m, h1, h2, fun k hk => h4 k hk, fun k _ => h5 k⟩⟩
  · rintro ⟨_, ⟨m, h1, h2, h4, h5⟩ | ⟨m, h1, h2, h4, h5⟩⟩
    · have h2' : m < l.length := h2
      exact ⟨m, Nat.zero_le _, h2, .inl ⟨m, h1, h2, rfl, fun k hk => h4 k (by show k < l.length; omega) hk, fun k h6 h7 => h5 k (by show k < l.length; omega) h6 h7⟩⟩
    · have h2' : m < l.length := h2
      exact ⟨m, Nat.zero_le _, h2, .inr ⟨m, h1, h2, rfl, fun k hk => h4 k hk, fun k h6 h7 => h5 k (by show k < l.length; omega) h6 h7⟩⟩
open Classical in
theorem rnorm_l (l : List Lr) (hl : l.length < 4294967296) : ∀ (d i : Nat) (o : List Lr), d = l.length - i → i ≤ l.length → o.length ≤ i →
    Evn (fun k => chaperonref10_Norm.l0 k l o (i : Int)) (o ++ pick l ((List.range' i (l.length - i)).filter fun a => decide (Go.Proofs.YtokfalcmkmelpaaHChain.Kept (xs l) (· < l.length) a))) := by
  intro d
  induction d with
  | zero =>
    intro i o hd hi ho
    refine Evn.succ (Evn.neg (by omega) ((Evn.ret _).val ?_))
    rw [← hd]
    simp [pick]
  | succ d ih =>
    intro i o hd hi ho
    have h : i < l.length := by omega
    rw [show l.length - i = (l.length - (i + 1)) + 1 by omega, List.range'_succ, List.filter_cons]
    refine Evn.succ (Evn.pos (by omega) (Evn.bind (h := fun k (t : Bool) => if t = true then _ else _) (kept_ev l hl i h) ?_))
    rw [rdT l i h, w1 h (by omega)]
    by_cases hk : Go.Proofs.YtokfalcmkmelpaaHChain.Kept (xs l) (· < l.length) i
    · rw [decide_eq_true hk]
      refine Evn.pos rfl (Evn.pos (by omega) (Evn.pos (by omega) ((ih (i + 1) _ (by omega) (by omega) (by simp; omega)).val ?_)))
      simp only [if_true]
      unfold pick
      rw [List.filterMap_cons_some (List.getElem?_eq_getElem h), List.append_assoc]
      rfl
    · rw [decide_eq_false hk]
      refine Evn.neg (by simp) ((ih (i + 1) o (by omega) (by omega) (by omega)).val ?_)
      simp
theorem rnorm_ev (l : List Lr) (hl : l.length < 4294967296) : Evn (fun k => chaperonref10_Norm.f k l) (norm fL l) := by
  refine (rnorm_l l hl l.length 0 [] (by omega) (by omega) (by simp)).val ?_
  rw [List.nil_append, Nat.sub_zero, ← List.range_eq_range', norm_eq]
  rfl
end Go.Proofs.Ytokfalcmkmelpaa.Pure
