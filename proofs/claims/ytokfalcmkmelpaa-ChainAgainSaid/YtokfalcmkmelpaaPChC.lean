/- chain: classes on the way. -/
import Derived.Test.YtokfalcmkmelpaaPCh
import Derived.Test.YtokfalcmkmelpaaEv
import Derived.Test.YtokfalcmkmelpaaPAllx7
import Derived.Test.YtokfalcmkmelpaaPAllx8
import Derived.Test.YtokfalcmkmelpaaPAllx9
namespace Go.Proofs.Ytokfalcmkmelpaa.Pure
open Go.RowKit Go.Proofs.Ytokfalcmkmelpaa.PAll Go.Proofs.YtokfalcmkmelpaaW.PrintWords Go.Proofs.YtokfalcmkmelpaaW.PrintLast Go.Proofs.YtokfalcmkmelpaaHChain Go.Proofs.YtokfalcmkmelpaaEv
set_option linter.unusedSimpArgs false
set_option linter.unusedVariables false
theorem rdB (l : List ByteArray) (i : Nat) (h : i < l.length) : rdOf ByteArray.empty l (i : Int) = l[i] := by
  unfold rdOf
  rw [Int.toNat_natCast, List.getD_eq_getElem?_getD, List.getElem?_eq_getElem h]; rfl
/-! ### Classes -/
open Classical in
/-- All classes on the way. -/
noncomputable def cls : List ByteArray → List Lr → List ByteArray
  | out, [] => out
  | out, x :: r => cls (if x.f1 ∈ out then out else out ++ [x.f1]) r
theorem index_l (o : List ByteArray) (ho : o.length < 4294967296) (x : ByteArray) : ∀ (d i : Nat), d = o.length - i → i ≤ o.length → (∀ j, j < i → ∀ h : j < o.length, x ≠ o[j]) →
    ∃ r : Int, Evn (fun k => slices_Index_string_string.l0 k o x (o.length : Int) (i : Int)) r ∧ (0 ≤ r ↔ x ∈ o) := by
  intro d
  induction d with
  | zero =>
    intro i hd hi hb
    refine ⟨-1, Evn.succ (Evn.neg (by omega) (Evn.ret _)), by simp, fun h => ?_⟩
    obtain ⟨j, hj, he⟩ := List.getElem_of_mem h
    exact absurd he.symm (hb j (by omega) hj)
  | succ d ih =>
    intro i hd hi hb
    have h : i < o.length := by omega
    by_cases he : x = o[i]
    · refine ⟨i, Evn.succ (Evn.pos (by omega) (Evn.pos (by omega) (Evn.pos (by omega) (Evn.pos (by rw [rdB o i h, ← he]) (Evn.ret _))))), fun _ => by rw [he]; exact List.getElem_mem h, fun _ => by omega⟩
    · obtain ⟨r, h1, h2⟩ := ih (i + 1) (by omega) (by omega) fun j hj hjl => by
        rcases Nat.lt_or_ge j i with h3 | h3
        · exact hb j h3 hjl
        · obtain rfl : j = i := by omega
          exact he
      refine ⟨r, Evn.succ (Evn.pos (by omega) (Evn.pos (by omega) (Evn.pos (by omega) (Evn.neg (by rw [rdB o i h]; exact fun h => he (toL.1 h)) ?_)))), h2⟩
      rw [w1 h (by omega)]; exact h1
open Classical in
theorem contains_ev (o : List ByteArray) (ho : o.length < 4294967296) (x : ByteArray) : Evn (fun k => slices_Contains_string_string.f k o x) (decide (x ∈ o)) := by
  obtain ⟨r, h1, h2⟩ := index_l o ho x o.length 0 (by omega) (by omega) fun j hj => by omega
  refine Evn.bind (h := fun _ t => some (decide (t ≥ 0))) h1 ((Evn.ret _).val ?_)
  exact decide_eq_decide.2 h2
open Classical in
theorem classes_l (l : List Lr) (hl : l.length < 4294967296) : ∀ (d i : Nat) (o : List ByteArray), d = l.length - i → i ≤ l.length → o.length ≤ i + 1 → Evn (fun k => chain_Classes.l0 k o l (l.length : Int) (i : Int)) (cls o (l.drop i)) := by
  intro d
  induction d with
  | zero =>
    intro i o hd hi ho
    refine Evn.succ (Evn.neg (by omega) ((Evn.ret _).val ?_))
    rw [List.drop_eq_nil_of_le (by omega)]; rfl
  | succ d ih =>
    intro i o hd hi ho
    have h : i < l.length := by omega
    rw [List.drop_eq_getElem_cons h, cls]
    refine Evn.succ (Evn.pos (by omega) (Evn.pos (by omega) (Evn.pos (by omega) (Evn.bind (h := fun k (t : Bool) => if t = true then _ else _) (contains_ev o (by omega) _) ?_))))
    rw [rdT l i h, w1 h (by omega)]
    by_cases hm : l[i].f1 ∈ o
    · rw [if_pos hm]
      exact Evn.pos (by simpa using hm) (ih (i + 1) o (by omega) (by omega) (by omega))
    · rw [if_neg hm]
      exact Evn.neg (by simpa using hm) (Evn.pos (by omega) (ih (i + 1) _ (by omega) (by omega) (by simp; omega)))
theorem classes_ev (a : ByteArray) (l : List Lr) (hl : l.length < 4294967296) : Evn (fun k => chain_Classes.f k a l) (cls [a] l) := classes_l l hl l.length 0 [a] (by omega) (by omega) (by simp)
theorem sameT_l (l : List ByteArray) (hl : l.length < 4294967296) : ∀ (d i : Nat), d = l.length - i → i ≤ l.length → Evn (fun k => chaperonkit_SameTexts.l0 k l l true (i : Int)) true := by
  intro d
  induction d with
  | zero => exact fun i hd hi => Evn.succ (Evn.pos rfl (Evn.neg (by omega) (Evn.ret _)))
  | succ d ih =>
    intro i hd hi
    have h : i < l.length := by omega
    refine Evn.succ (Evn.pos rfl (Evn.pos (by omega) (Evn.pos (by omega) (Evn.pos (by omega) ?_))))
    rw [beq_self_eq_true, w1 h (by omega)]
    exact ih (i + 1) (by omega) (by omega)
theorem sameT_ev {l m : List ByteArray} (hl : l.length < 4294967296) (e : l = m) : Evn (fun k => chaperonkit_SameTexts.f k l m) true := by
  subst e
  refine Evn.congr (g' := fun k => chaperonkit_SameTexts.l0 k l l true 0) (fun k => by unfold chaperonkit_SameTexts.f; rw [beq_self_eq_true]) (sameT_l l hl l.length 0 (by omega) (by omega))
theorem cls_len : ∀ (l : List Lr) (o : List ByteArray), (cls o l).length ≤ o.length + l.length
  | [], o => by simp [cls]
  | x :: r, o => by
    rw [cls]
    refine Nat.le_trans (cls_len r _) ?_
    split <;> simp <;> omega
end Go.Proofs.Ytokfalcmkmelpaa.Pure
