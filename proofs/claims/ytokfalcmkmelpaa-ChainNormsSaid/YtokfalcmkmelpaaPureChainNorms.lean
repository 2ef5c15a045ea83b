/- ChainNorms' plain law: both tell the norm, of a chain, of one with a layer behind it, of two. -/
import Derived.Test.YtokfalcmkmelpaaPAllOpChainNorms
import Derived.Test.YtokfalcmkmelpaaPChA
import Derived.Test.YtokfalcmkmelpaaPChR
import Derived.Test.YtokfalcmkmelpaaPChB
import Derived.Test.YtokfalcmkmelpaaPAllx19
import Derived.Test.YtokfalcmkmelpaaPAllx20
import Derived.Test.YtokfalcmkmelpaaPAllx21
namespace Go.Proofs.Ytokfalcmkmelpaa.Pure
open Go.RowKit Go.Proofs.Ytokfalcmkmelpaa.PAll Go.Proofs.YtokfalcmkmelpaaW.PrintWords Go.Proofs.YtokfalcmkmelpaaW.PrintLast Go.Proofs.YtokfalcmkmelpaaHChain Go.Proofs.YtokfalcmkmelpaaEv
set_option linter.unusedSimpArgs false
set_option linter.unusedVariables false
theorem rmerge_ev (l m : List Lr) (h : l.length + m.length < 4294967296) : Evn (fun k => chaperonref10_Merge.f k l m) (norm fL (l ++ m)) := by
  refine Evn.cbind (v := ([] : List Lr)) rfl (Evn.pos (by simp; omega) (Evn.cbind (v := l) rfl (Evn.pos (by omega) (Evn.bind (rnorm_ev (l ++ m) (by simp; omega)) (Evn.ret _)))))
theorem radd_ev (l : List Lr) (x : Lr) (h : l.length < 4294967290) : Evn (fun k => chaperonref10_Add.f k l x.f0 x.f1 x.f2) (norm fL (l ++ [x])) :=
  Evn.bind (rmerge_ev l [x] (by simp; omega)) (Evn.ret _)
theorem overL_l : ∀ (d i : Nat) (l : List Lr), l.length < 4294967296 → d = l.length - i → i ≤ l.length → ∃ r, Evn (fun k => chaperonkit_OverLayers.l0 k l (i : Int)) r := by
  intro d
  induction d with
  | zero => exact fun i l hl hd hi => ⟨l, Evn.succ (Evn.neg (by omega) (Evn.ret _))⟩
  | succ d ih =>
    intro i l hl hd hi
    have h : i < l.length := by omega
    obtain ⟨r, hr⟩ := ih (i + 1) (l.set (i : Int).toNat ⟨false, ⟨#[79, 118, 101, 114]⟩, -7⟩) (by simpa using hl) (by simp; omega) (by simp; omega)
    refine ⟨r, Evn.succ (Evn.pos (by omega) (Evn.pos (by omega) ?_))⟩
    rw [w1 h (by omega)]
    exact hr
theorem overL_ev (l : List Lr) (hl : l.length < 4294967296) : ∃ r, Evn (fun k => chaperonkit_OverLayers.f k l) r := overL_l l.length 0 l hl (by omega) (by omega)
theorem ChainNorms : chaperonlaw10_ChainNorms.Pure := by
  intro l0 l1 x2 _ _ _ _ _
  obtain ⟨b0, hb0, hb0f⟩ := long_ev l0
  obtain ⟨b1, hb1, hb1f⟩ := long_ev l1
  have hend : Evn (fun k => (chaperonlaw10_awake.f k).bind fun t => some t) true := Evn.bind (h := fun _ t => some t) awake_ev (Evn.ret _)
  refine Evn.ex (Evn.bind (h := fun k (t : Bool) => if t = true then chaperonlaw10_ChainNorms.j0 k l0 l1 true x2.f0 x2.f1 x2.f2 else _) hb0 ?_)
  cases b0
  case true => exact Evn.pos rfl (Evn.succ hend)
  refine Evn.neg (by simp) (Evn.bind (h := fun k (t : Bool) => if t = true then chaperonlaw10_ChainNorms.j0 k l0 l1 true x2.f0 x2.f1 x2.f2 else chaperonlaw10_ChainNorms.j0 k l0 l1 (decide ((x2.f1.size : Int) > 60)) x2.f0 x2.f1 x2.f2) hb1 ?_)
  cases b1
  case true => exact Evn.pos rfl (Evn.succ hend)
  refine Evn.neg (by simp) ?_
  by_cases h60 : (x2.f1.size : Int) > 60
  · rw [decide_eq_true h60]
    exact Evn.succ hend
  · rw [decide_eq_false h60]
    obtain ⟨h30, _⟩ := hb0f rfl
    obtain ⟨h31, _⟩ := hb1f rfl
    have n1 := norm_len fL l0
    have n2 := norm_len fL (l0 ++ [x2])
    have n3 := norm_len fL (l0 ++ l1)
    simp only [List.length_append, List.length_singleton] at n2 n3
    obtain ⟨r1, o1⟩ := overL_ev (norm fL l0) (by omega)
    obtain ⟨r2, o2⟩ := overL_ev (norm fL (l0 ++ [x2])) (by omega)
    obtain ⟨r3, o3⟩ := overL_ev (norm fL (l0 ++ l1)) (by omega)
    refine Evn.succ (Evn.cbind (copy l0 (by omega)) (Evn.cbind (copy l1 (by omega)) (Evn.cbind (Norm_is l0 (by omega)) (Evn.cbind (add_is l0 x2 (by omega)) (Evn.cbind (merge_is l0 l1 (by omega)) (Evn.bind (rnorm_ev l0 (by omega)) (Evn.bind (same_ev (by omega) rfl) (Evn.bind (radd_ev l0 x2 (by omega)) (Evn.bind (same_ev (by omega) rfl) (Evn.bind (rmerge_ev l0 l1 (by omega)) (Evn.bind (same_ev (by omega) rfl) ?_)))))))))))
    exact Evn.succ (Evn.bind o1 (Evn.bind o2 (Evn.bind o3 (Evn.bind (same_ev (by omega) rfl) (Evn.bind (same_ev (by omega) rfl) hend)))))
end Go.Proofs.Ytokfalcmkmelpaa.Pure
