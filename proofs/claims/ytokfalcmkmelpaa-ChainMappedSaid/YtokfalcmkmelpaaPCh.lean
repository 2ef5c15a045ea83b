/- chain: what the functions tell, in plain Lean; the norm's laws. -/
import Derived.Test.YtokfalcmkmelpaaPAllx4
import Derived.Test.YtokfalcmkmelpaaPAllx5
import Derived.Test.YtokfalcmkmelpaaHChain6
namespace Go.Proofs.Ytokfalcmkmelpaa.Pure
open Go.RowKit Go.Proofs.Ytokfalcmkmelpaa.PAll Go.Proofs.YtokfalcmkmelpaaW.PrintWords Go.Proofs.YtokfalcmkmelpaaW.PrintLast Go.Proofs.YtokfalcmkmelpaaHChain
set_option linter.unusedSimpArgs false
set_option linter.unusedVariables false

abbrev Lr := S37
/-- A layer's letter. -/
def fL (x : Lr) : Letter := (x.f0, x.f1)
theorem kept_congr {A B : Type} {x : Nat → A} {y : Nat → B} {S : Nat → Prop} (h : ∀ i k, S i → S k → (x i = x k ↔ y i = y k)) (i : Nat) : Go.Proofs.YtokfalcmkmelpaaHChain.Kept x S i ↔ Go.Proofs.YtokfalcmkmelpaaHChain.Kept y S i := by
  unfold Go.Proofs.YtokfalcmkmelpaaHChain.Kept KeptF KeptB
  refine and_congr_right fun hi => or_congr (exists_congr fun j => and_congr_right fun _ => and_congr_right fun hj => and_congr ?_ ?_) (exists_congr fun j => and_congr_right fun _ => and_congr_right fun hj => and_congr ?_ ?_)
  · exact forall_congr' fun k => imp_congr_right fun hk => imp_congr_right fun _ => not_congr (h k j hk hj)
  · exact forall_congr' fun k => imp_congr_right fun hk => imp_congr_right fun _ => imp_congr_right fun _ => not_congr (h k i hk hi)
  · exact forall_congr' fun k => imp_congr_right fun hk => imp_congr_right fun _ => not_congr (h k j hk hj)
  · exact forall_congr' fun k => imp_congr_right fun hk => imp_congr_right fun _ => imp_congr_right fun _ => not_congr (h k i hk hi)
theorem pick_succ {B : Type} (a : B) (r : List B) (Q : List Nat) : pick (a :: r) (Q.map Nat.succ) = pick r Q := by
  unfold pick
  rw [List.filterMap_map]
  rfl
theorem sel_pick : ∀ (l : List Lr) (s : List Bool), l.length = s.length → chain_Norm.sel l s = pick l ((List.range l.length).filter fun i => s.getD i false)
  | [], [], _ => rfl
  | [], _ :: _, h => by simp at h
  | _ :: _, [], h => by simp at h
  | x :: r, b :: s, h => by
    have ih := sel_pick r s (by simpa using h)
    rw [List.length_cons, List.range_succ_eq_map, List.filter_cons]
    have hm : ((List.map Nat.succ (List.range r.length)).filter fun i => (b :: s).getD i false) = ((List.range r.length).filter fun i => s.getD i false).map Nat.succ := by
      rw [List.filter_map]; rfl
    rw [hm]
    cases b
    · simp only [List.getD_cons_zero, Bool.false_eq_true, if_false, chain_Norm.sel]
      rw [pick_succ, ih]
    · simp only [List.getD_cons_zero, if_true, chain_Norm.sel]
      rw [ih, ← pick_succ x r]
      unfold pick
      rw [List.filterMap_cons_some (b := x) (by simp)]
open Classical in
theorem norm_is (l : List Lr) : chain_Norm.sel l (chain_Norm.ms l) = norm fL l := by
  rw [sel_pick l _ (by rw [chain_Norm.ms, marked_len]), norm_eq]
  congr 1
  refine List.filter_congr fun i hi => ?_
  have hi' := List.mem_range.1 hi
  rw [Bool.eq_iff_iff, decide_eq_true_iff, chain_Norm.ms, marked_iff _ _ _ hi']
  refine kept_congr (fun a b ha hb => ?_) i
  have ha' : a < l.length := ha
  have hb' : b < l.length := hb
  simp [let_, chain_Norm.lay, ha', hb', fL]
theorem Norm_is (l : List Lr) (h : l.length < 4398046511104) : chain_Norm.f l = some (norm fL l) := by
  unfold chain_Norm.f
  rw [if_pos h, norm_is]
theorem norm_len {A B : Type} (f : B → A) (l : List B) : (norm f l).length ≤ l.length := by
  rw [norm_eq, pick_len]
  · exact Nat.le_trans (List.length_filter_le _ _) (by simp)
  · intro i hi; exact List.mem_range.1 (List.mem_filter.1 hi).1

/-! ### Loops -/
theorem w1 {i n : Nat} (h : i < n) (hn : n < 4398046511104) : wrap64 ((i : Int) + 1) = ((i + 1 : Nat) : Int) := by unfold wrap64; omega
theorem rdT (l : List Lr) (i : Nat) (h : i < l.length) : rd_T37 l (i : Int) = l[i] := by
  unfold rd_T37
  rw [Int.toNat_natCast, List.getD_eq_getElem?_getD, List.getElem?_eq_getElem h]; rfl
theorem same_l (l : List Lr) (hl : l.length < 4398046511104) : ∀ (k i : Nat), i ≤ l.length → l.length < k + i → chaperonkit_SameLayers.l0 k l l (i : Int) = some true
  | 0, i, h1, h2 => by omega
  | k + 1, i, h1, h2 => by
    rw [chaperonkit_SameLayers.l0]
    by_cases h : i < l.length
    · rw [if_pos (by omega), if_pos (by omega), if_pos (by omega), if_neg (by simp), w1 h hl]
      exact same_l l hl k (i + 1) h (by omega)
    · rw [if_neg (by omega)]
theorem same (l : List Lr) (hl : l.length < 4398046511104) (k : Nat) (hk : l.length < k) : chaperonkit_SameLayers.f k l l = some true := by
  unfold chaperonkit_SameLayers.f
  rw [if_pos rfl]
  exact same_l l hl k 0 (by omega) (by omega)
theorem toL {x y : ByteArray} : x.toList = y.toList ↔ x = y := ⟨fun h => toList_inj h, fun h => by rw [h]⟩
end Go.Proofs.Ytokfalcmkmelpaa.Pure
