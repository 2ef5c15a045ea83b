/- ChainSees' plain law: both tell the same classes, the same last one, the same bound. -/
import Derived.Test.YtokfalcmkmelpaaPAllOpChainSees
import Derived.Test.YtokfalcmkmelpaaPChA
import Derived.Test.YtokfalcmkmelpaaPChC
namespace Go.Proofs.Ytokfalcmkmelpaa.Pure
open Go.RowKit Go.Proofs.Ytokfalcmkmelpaa.PAll Go.Proofs.YtokfalcmkmelpaaW.PrintWords Go.Proofs.YtokfalcmkmelpaaW.PrintLast Go.Proofs.YtokfalcmkmelpaaHChain Go.Proofs.YtokfalcmkmelpaaEv
set_option linter.unusedSimpArgs false
set_option linter.unusedVariables false
open Classical in
theorem ref_l1 (l : List Lr) (hl : l.length < 4294967296) (i : Nat) (hi : i < l.length) (o : List ByteArray) (ho : o.length < 4294967296)
    (hK : ∀ o' : List ByteArray, o'.length ≤ o.length + 1 → Evn (fun k => chaperonref10_Classes.l0 k l o' ((i + 1 : Nat) : Int)) (cls o' (l.drop (i + 1)))) :
    ∀ (d j : Nat) (t : Bool), d = o.length - j → j ≤ o.length → Evn (fun k => chaperonref10_Classes.l1 k l o (i : Int) t (j : Int)) (cls (if t = true ∨ l[i].f1 ∈ o.drop j then o else o ++ [l[i].f1]) (l.drop (i + 1))) := by
  intro d
  induction d with
  | zero =>
    intro j t hd hj
    rw [List.drop_eq_nil_of_le (by omega)]
    cases t
    · rw [if_neg (by simp)]
      refine Evn.succ (Evn.neg (by omega) (Evn.neg (by simp) (Evn.pos (by omega) (Evn.pos (by omega) (Evn.pos (by omega) ?_)))))
      rw [rdT l i hi, w1 hi (by omega)]
      exact hK _ (by simp)
    · rw [if_pos (by simp)]
      refine Evn.succ (Evn.neg (by omega) ?_)
      rw [w1 hi (by omega)]
      exact hK _ (by omega)
  | succ d ih =>
    intro j t hd hj
    have h : j < o.length := by omega
    cases t
    · refine Evn.succ (Evn.pos (by omega) (Evn.neg (by simp) (Evn.pos (by omega) (Evn.pos (by omega) (Evn.pos (by omega) ?_)))))
      rw [rdB o j h, rdT l i hi, w1 h (by omega)]
      refine (ih (j + 1) _ (by omega) (by omega)).val ?_
      have he : ((o[j].toList == l[i].f1.toList) = true ∨ l[i].f1 ∈ o.drop (j + 1)) ↔ (false = true ∨ l[i].f1 ∈ o.drop j) := by
        rw [List.drop_eq_getElem_cons h, List.mem_cons, beq_iff_eq, toL]
        simp [eq_comm]
      by_cases hc : (o[j].toList == l[i].f1.toList) = true ∨ l[i].f1 ∈ o.drop (j + 1)
      · rw [if_pos hc, if_pos (he.1 hc)]
      · rw [if_neg hc, if_neg fun h => hc (he.2 h)]
    · refine Evn.succ (Evn.pos (by omega) ?_)
      rw [w1 h (by omega)]
      refine (ih (j + 1) true (by omega) (by omega)).val ?_
      simp
open Classical in
theorem ref_l0 (l : List Lr) (hl : l.length < 4294967296) : ∀ (d i : Nat) (o : List ByteArray), d = l.length - i → i ≤ l.length → o.length ≤ i + 1 → Evn (fun k => chaperonref10_Classes.l0 k l o (i : Int)) (cls o (l.drop i)) := by
  intro d
  induction d with
  | zero =>
    intro i o hd hi ho
    refine Evn.succ (Evn.neg (by omega) ((Evn.ret _).val ?_))
    rw [List.drop_eq_nil_of_le (by omega)]; rfl
  | succ d ih =>
    intro i o hd hi ho
    have h : i < l.length := by omega
    refine Evn.succ (Evn.pos (by omega) ?_)
    refine (ref_l1 l hl i h o (by omega) (fun o' ho' => ih (i + 1) o' (by omega) (by omega) (by omega)) o.length 0 false (by omega) (by omega)).val ?_
    rw [List.drop_eq_getElem_cons h, cls]
    simp
theorem ref_ev (a : ByteArray) (l : List Lr) (hl : l.length < 4294967296) : Evn (fun k => chaperonref10_Classes.f k a l) (cls [a] l) := ref_l0 l hl l.length 0 [a] (by omega) (by omega) (by simp)
theorem over_l : ∀ (d i : Nat) (l : List ByteArray), l.length < 4294967296 → d = l.length - i → i ≤ l.length → ∃ r, Evn (fun k => chaperonkit_OverTexts.l0 k l (i : Int)) r := by
  intro d
  induction d with
  | zero => exact fun i l hl hd hi => ⟨l, Evn.succ (Evn.neg (by omega) (Evn.ret _))⟩
  | succ d ih =>
    intro i l hl hd hi
    have h : i < l.length := by omega
    obtain ⟨r, hr⟩ := ih (i + 1) (l.set (i : Int).toNat ⟨#[119, 114, 105, 116, 116, 101, 110, 32, 111, 118, 101, 114]⟩) (by simpa using hl) (by simp; omega) (by simp; omega)
    refine ⟨r, Evn.succ (Evn.pos (by omega) (Evn.pos (by omega) ?_))⟩
    rw [w1 h (by omega)]
    exact hr
theorem over_ev (l : List ByteArray) (hl : l.length < 4294967296) : ∃ r, Evn (fun k => chaperonkit_OverTexts.f k l) r := over_l l.length 0 l hl (by omega) (by omega)
theorem seen_eq : chain_Seen.f = chaperonref10_Seen.f := rfl
theorem seen_some (a : ByteArray) (l : List Lr) (hl : l.length < 4294967296) : ∃ s, chain_Seen.f a l = some s := by
  unfold chain_Seen.f
  split
  · exact ⟨_, rfl⟩
  · rename_i h
    have : wrap64 ((l.length : Int) - 1) = (l.length : Int) - 1 := by unfold wrap64; omega
    rw [this, if_pos (by omega), if_pos (by omega)]
    exact ⟨_, rfl⟩
theorem bound_eq : chain_Bound.f = chaperonref10_Bound.f := rfl
theorem bound_some (n : Int) : ∃ b, chain_Bound.f n = some b := by
  unfold chain_Bound.f
  split
  · exact ⟨_, rfl⟩
  · split <;> exact ⟨_, rfl⟩
theorem ChainSees : chaperonlaw10_ChainSees.Pure := by
  intro a0 l1 a2 _ hm hw h2
  obtain ⟨b, hb, hbf⟩ := long_ev l1
  have hend : Evn (fun k => (chaperonlaw10_awake.f k).bind fun t => some t) true := Evn.bind (h := fun _ t => some t) awake_ev (Evn.ret _)
  refine Evn.ex (Evn.bind (h := fun k (t : Bool) => if t = true then chaperonlaw10_ChainSees.j0 k a0 l1 a2 true else chaperonlaw10_ChainSees.j0 k a0 l1 a2 (decide ((a0.size : Int) > 60))) hb ?_)
  cases b
  · obtain ⟨h30, _⟩ := hbf rfl
    have hbig : l1.length < 4294967296 := by omega
    refine Evn.neg (by simp) ?_
    by_cases h60 : (a0.size : Int) > 60
    · rw [decide_eq_true h60]
      exact Evn.succ hend
    · rw [decide_eq_false h60]
      obtain ⟨bd, hbd⟩ := bound_some a2
      obtain ⟨s, hs⟩ := seen_some a0 l1 hbig
      have hbd' : chaperonref10_Bound.f a2 = some bd := hbd
      have hs' : chaperonref10_Seen.f a0 l1 = some s := hs
      have hcl : (cls [a0] l1).length < 4294967296 := by have := cls_len l1 [a0]; simp at this; omega
      obtain ⟨r, hr⟩ := over_ev (cls [a0] l1) hcl
      exact Evn.succ (Evn.cbind (copy l1 (by omega)) (Evn.bind (classes_ev a0 l1 hbig) (Evn.cbind hbd (Evn.cbind hbd' (Evn.bind (ref_ev a0 l1 hbig) (Evn.bind (sameT_ev hcl rfl) (Evn.cbind hs (Evn.cbind hs' (Evn.pos rfl (Evn.pos rfl (Evn.bind hr (Evn.pos rfl (Evn.bind (same_ev (by omega) rfl) hend)))))))))))))
  · exact Evn.succ hend
end Go.Proofs.Ytokfalcmkmelpaa.Pure
