/- flow: what the functions tell, in plain Lean; the chapter's examples. -/
import Derived.Test.YtimflmgdnfpodaaPAllx21
import Derived.Test.YtimflmgdnfpodaaPAllx23
import Derived.Test.YtimflmgdnfpodaaPAllx5
import Derived.Test.YtimflmgdnfpodaaPAllx6
import Derived.Test.YtimflmgdnfpodaaPAllx9
import Derived.Test.YtimflmgdnfpodaaEv
namespace Go.Proofs.Ytimflmgdnfpodaa.Pure
open Go.RowKit Go.Proofs.Ytimflmgdnfpodaa.PAll Go.Proofs.YtimflmgdnfpodaaW.PrintWords Go.Proofs.YtimflmgdnfpodaaW.PrintLast Go.Proofs.YtimflmgdnfpodaaEv Go.Proofs.YtimflmgdnfpodaaFlow Go.Proofs.YtimflmgdnfpodaaMp
set_option linter.unusedSimpArgs false
set_option linter.unusedVariables false
theorem sortI_id (l : List Int) (h : l.Pairwise (fun a b => a ≤ b)) : sortI l = l := by
  unfold sortI
  exact List.mergeSort_of_pairwise (h.imp (fun h => decide_eq_true h))
theorem known_reach (l : List (S40)) (h : flow_Check.f l = some (0, 0)) (h2 : flow_Reach.go l l.length 0 [0] = [0, 2]) : flow_Reach.f l = some ([0, 2], 0, 0) := by
  unfold flow_Reach.f
  rw [h]
  show some (sortI (flow_Reach.go l l.length 0 [0]), 0, 0) = _
  rw [h2, sortI_id [0, 2] (by decide)]
def lit1 : List (S40) := (chaperonlaw24_of.f 12 (⟨#[74, 50, 73, 82]⟩ : ByteArray)).getD []
theorem lit1_is : chaperonlaw24_of.f 12 (⟨#[74, 50, 73, 82]⟩ : ByteArray) = some lit1 := by kernel_rfl
theorem lit1_reach : flow_Reach.f lit1 = some ([0, 2], 0, 0) := known_reach lit1 (by kernel_rfl) (by kernel_rfl)
theorem awake12 : chaperonlaw24_awake.f 12 = some true := by kernel_rfl
theorem known12 : chaperonlaw24_FlowKnown.f 12 = some true := by
  unfold chaperonlaw24_FlowKnown.f
  rw [show chaperonlaw24_of.f 12 (⟨#[82]⟩ : ByteArray) = some ((chaperonlaw24_of.f 12 (⟨#[82]⟩ : ByteArray)).getD []) by kernel_rfl, Option.bind_some]
  rw [show flow_Next.f ((chaperonlaw24_of.f 12 (⟨#[82]⟩ : ByteArray)).getD []) 1 = some ([], 3) by kernel_rfl, Option.bind_some]
  rw [lit1_is, Option.bind_some, lit1_reach, Option.bind_some, awake12]
  kernel_rfl
theorem known : Evn (fun k => chaperonlaw24_FlowKnown.f k) true :=
  ⟨12, fun k hk => at_rounds (g := fun k => chaperonlaw24_FlowKnown.f k) (fun k => chaperonlaw24_FlowKnown.mono k) hk known12⟩
abbrev Ins := S40
abbrev insAt (l : List Ins) (i : Int) : Ins := rd_T40 l i
/-- Is it a Jump or a Branch? -/
def isJ (x : Ins) : Bool := x.f0 == 11 || x.f0 == 12
/-- Is it a Jump, a Branch or a Ret? -/
def isE (x : Ins) : Bool := x.f0 == 11 || x.f0 == 12 || x.f0 == 28
theorem upd_keys (k v : Int) (c : Nat) (L : List (Int × Int × Nat)) (x : Int) : x ∈ (upd ieq k v c L).1.map (·.1) ↔ x = k ∨ x ∈ L.map (·.1) := by
  unfold upd
  cases hf : findIdx ieq k L 0 with
  | none => simp [List.map_append, or_comm]
  | some y =>
    obtain ⟨i, u⟩ := y
    obtain ⟨j, hj, hlt, e, he, hke⟩ := findIdx_lt k L 0 i u hf
    obtain rfl : i = j := by omega
    have hk : k = e.1 := by simpa [ieq] using hke
    have hm : (L.modify i fun e => (k, v, e.2.2)).map (·.1) = L.map (·.1) := by
      refine List.ext_getElem? fun q => ?_
      simp only [List.getElem?_map, List.getElem?_modify]
      by_cases hq : i = q
      · subst hq; simp [he, hk]
      · simp [hq]
    simp only
    rw [hm]
    constructor
    · exact .inr
    · rintro (rfl | h)
      · rw [hk]; exact List.mem_map.2 ⟨e, List.mem_of_getElem? he, rfl⟩
      · exact h
theorem keys_mem (l : List Ins) (x : Int) : ∀ i, x ∈ (flow_Parts.keys l i).1.map (·.1) ↔ ∃ j : Nat, j < i ∧ ((isJ (insAt l j) = true ∧ x = (insAt l j).f1) ∨ (isE (insAt l j) = true ∧ x = (j : Int) + 1))
  | 0 => by simp [flow_Parts.keys]
  | i + 1 => by
    have ih := keys_mem l x i
    have step : x ∈ (flow_Parts.keys l (i + 1)).1.map (·.1) ↔ (x ∈ (flow_Parts.keys l i).1.map (·.1)) ∨ (isJ (insAt l i) = true ∧ x = (insAt l i).f1) ∨ (isE (insAt l i) = true ∧ x = (i : Int) + 1) := by
      have hs : flow_Parts.keys l (i + 1) = (if isE (insAt l i) = true then upd ieq ((i : Int) + 1) (i : Int) (if isJ (insAt l i) = true then upd ieq (insAt l i).f1 (i : Int) (flow_Parts.keys l i).2 (flow_Parts.keys l i).1 else flow_Parts.keys l i).2 (if isJ (insAt l i) = true then upd ieq (insAt l i).f1 (i : Int) (flow_Parts.keys l i).2 (flow_Parts.keys l i).1 else flow_Parts.keys l i).1 else (if isJ (insAt l i) = true then upd ieq (insAt l i).f1 (i : Int) (flow_Parts.keys l i).2 (flow_Parts.keys l i).1 else flow_Parts.keys l i)) := rfl
      rw [hs]
      have himp : isJ (insAt l i) = true → isE (insAt l i) = true := fun h => by unfold isE; unfold isJ at h; rw [h]; rfl
      cases hj : isJ (insAt l i) <;> cases he : isE (insAt l i)
      · simp
      · simp [upd_keys, or_comm]
      · rw [himp hj] at he; cases he
      · simp only [if_true, upd_keys, true_and]
        constructor
        · rintro (h | h | h)
          · exact .inr (.inr h)
          · exact .inr (.inl h)
          · exact .inl h
        · rintro (h | h | h)
          · exact .inr (.inr h)
          · exact .inr (.inl h)
          · exact .inl h
    rw [step, ih]
    constructor
    · rintro (⟨j, hj, h⟩ | h)
      · exact ⟨j, by omega, h⟩
      · exact ⟨i, by omega, h⟩
    · rintro ⟨j, hj, h⟩
      by_cases e : j = i
      · subst e; exact .inr h
      · exact .inl ⟨j, by omega, h⟩
theorem findIdx_mem (k : Int) : ∀ (L : List (Int × Int × Nat)) (i : Nat), (findIdx ieq k L i).isSome = decide (k ∈ L.map (·.1)) := findIdx_some k
theorem has_iff (l : List Ins) (x : Int) : flow_Parts.has l x = true ↔ ∃ j : Nat, j < l.length ∧ ((isJ (insAt l j) = true ∧ x = (insAt l j).f1) ∨ (isE (insAt l j) = true ∧ x = (j : Int) + 1)) := by
  unfold flow_Parts.has
  rw [findIdx_mem, decide_eq_true_iff, keys_mem]
theorem uniq_one (x : Int) : uniq [x] = [x] := by
  simp [uniq, uniqU, rdOf]
theorem uniq_two (x y : Int) : uniq [x, y] = if y = x then [x] else [x, y] := by
  simp [uniq, uniqU, rdOf]
theorem uniq_nil : uniq [] = [] := rfl
/-- Where place p goes. -/
theorem to_is (l : List Ins) (p : Nat) (hp : p < 4611686018427387904) : flow_Reach.to l (p : Int) =
    if (insAt l p).f0 = 11 then [(insAt l p).f1] else if (insAt l p).f0 = 12 then (if (insAt l p).f1 = (p : Int) + 1 then [(p : Int) + 1] else [(p : Int) + 1, (insAt l p).f1]) else if (insAt l p).f0 = 28 then [] else [(p : Int) + 1] := by
  have hw : wrap64 ((p : Int) + 1) = (p : Int) + 1 := by unfold wrap64; omega
  unfold flow_Reach.to goesL
  rw [hw]
  split
  · rw [uniq_one]
  · split
    · rw [uniq_two]
    · split
      · rfl
      · rw [uniq_one]
theorem next_is (l : List Ins) (p : Int) (h0 : 0 ≤ p) (h1 : p < (l.length : Int)) : flow_Next.f l p = some (flow_Reach.to l p, 0) := by
  unfold flow_Next.f
  rw [if_neg (by omega), if_neg (by omega)]
  rfl
theorem same_ints (l : List Int) (hl : l.length < 4611686018427387904) : Evn (fun k => chaperonkit_SameInts.f k l l) true := by
  have key : ∀ (d i : Nat), l.length - i ≤ d → i ≤ l.length → ∀ k, d < k → chaperonkit_SameInts.l0 k l l true (i : Int) = some true := by
    intro d
    induction d with
    | zero =>
      intro i h1 h2 k hk
      obtain ⟨k, rfl⟩ : ∃ m, k = m + 1 := ⟨k - 1, by omega⟩
      simp only [chaperonkit_SameInts.l0]
      rw [if_pos trivial, if_neg (by omega)]
    | succ d ih =>
      intro i h1 h2 k hk
      obtain ⟨k, rfl⟩ : ∃ m, k = m + 1 := ⟨k - 1, by omega⟩
      simp only [chaperonkit_SameInts.l0]
      rw [if_pos trivial]
      by_cases hlt : (i : Int) < (l.length : Int)
      · rw [if_pos hlt, if_pos (by omega), if_pos hlt, beq_self_eq_true]
        have hw : wrap64 ((i : Int) + 1) = ((i + 1 : Nat) : Int) := by unfold wrap64; omega
        rw [hw]
        exact ih (i + 1) (by omega) (by omega) k (by omega)
      · rw [if_neg hlt]
  refine ⟨l.length + 1, fun k hk => ?_⟩
  unfold chaperonkit_SameInts.f
  rw [beq_self_eq_true]
  exact key l.length 0 (by omega) (by omega) k (by omega)
/-- What Check tells. -/
theorem check_cases (l : List Ins) : (∃ e a, flow_Check.f l = some (e, a) ∧ (e = 12 ∨ e = 16)) ∨ (flow_Check.f l = some (0, 0) ∧ 0 < l.length ∧ l.length ≤ 20000) := by
  by_cases h : flow_Check.f l = some (0, 0)
  · obtain ⟨h1, h2, _⟩ := flow_Parts.ok l h
    exact .inr ⟨h, h1, h2⟩
  · left
    unfold flow_Check.f flow_Check.v at h ⊢
    by_cases h1 : (l.length : Int) > 20000
    · rw [if_pos h1]; exact ⟨_, _, rfl, .inl rfl⟩
    · rw [if_neg h1] at h ⊢
      by_cases h2 : (l.length : Int) = 0
      · rw [if_pos h2]; exact ⟨_, _, rfl, .inr rfl⟩
      · rw [if_neg h2] at h ⊢
        cases ha : flow_Check.at l l.length 0 with
        | none => rw [ha] at h; exact absurd rfl h
        | some i => exact ⟨_, _, rfl, .inr rfl⟩
theorem parts_bad {l : List Ins} {e a : Int} (h : flow_Check.f l = some (e, a)) (he : e = 12 ∨ e = 16) : flow_Parts.f l = some ([], e, a) := by
  unfold flow_Parts.f
  rw [h, Option.bind_some, if_pos (by rcases he with rfl | rfl <;> simp)]
theorem parts_ok {l : List Ins} (h : flow_Check.f l = some (0, 0)) : flow_Parts.f l = some (flow_Parts.from l (flow_Parts.has l) l.length 0, 0, 0) := by
  unfold flow_Parts.f
  rw [h, Option.bind_some, if_neg (by simp)]
theorem reach_bad {l : List Ins} {e a : Int} (h : flow_Check.f l = some (e, a)) (he : e = 12 ∨ e = 16) : flow_Reach.f l = some ([], e, a) := by
  unfold flow_Reach.f
  rw [h, Option.bind_some, if_pos (by rcases he with rfl | rfl <;> simp)]
theorem reach_ok {l : List Ins} (h : flow_Check.f l = some (0, 0)) : flow_Reach.f l = some (sortI (flow_Reach.go l l.length 0 [0]), 0, 0) := by
  unfold flow_Reach.f
  rw [h, Option.bind_some, if_neg (by simp)]
theorem to_in {l : List Ins} (h : flow_Check.f l = some (0, 0)) (p : Nat) (hp : p < l.length) : ∀ x ∈ flow_Reach.to l (p : Int), 0 ≤ x ∧ x < (l.length : Int) := by
  obtain ⟨_, _, ha⟩ := flow_Parts.ok l h
  exact flow_Reach.ok_at l l.length 0 ha p (Nat.zero_le _) (by omega)
end Go.Proofs.Ytimflmgdnfpodaa.Pure
