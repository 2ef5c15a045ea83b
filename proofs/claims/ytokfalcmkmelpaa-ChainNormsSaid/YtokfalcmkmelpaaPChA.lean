/- chain: what the functions tell, from some round on. -/
import Derived.Test.YtokfalcmkmelpaaPCh
import Derived.Test.YtokfalcmkmelpaaPAllx2
import Derived.Test.YtokfalcmkmelpaaPAllx6
import Derived.Test.YtokfalcmkmelpaaPAllx7
import Derived.Test.YtokfalcmkmelpaaEv
namespace Go.Proofs.Ytokfalcmkmelpaa.Pure
open Go.RowKit Go.Proofs.Ytokfalcmkmelpaa.PAll Go.Proofs.YtokfalcmkmelpaaW.PrintWords Go.Proofs.YtokfalcmkmelpaaW.PrintLast Go.Proofs.YtokfalcmkmelpaaHChain Go.Proofs.YtokfalcmkmelpaaEv
set_option linter.unusedSimpArgs false
set_option linter.unusedVariables false
theorem awake_ev : Evn chaperonlaw10_awake.f true := ⟨0, fun _ _ => rfl⟩
theorem same_ev {l m : List Lr} (hl : l.length < 4398046511104) (e : l = m) : Evn (fun k => chaperonkit_SameLayers.f k l m) true := by
  subst e
  exact ⟨l.length + 1, fun k hk => same l hl k (by omega)⟩
/-- long. -/
theorem long_l (l : List Lr) : ∀ (d i : Nat), d = l.length - i → i ≤ l.length → (∀ j, j < i → ∀ h : j < l.length, l[j].f1.size ≤ 60) →
    ∃ b, Evn (fun k => chaperonlaw10_long.l0 k l (i : Int)) b ∧ (b = false → l.length ≤ 30 ∧ ∀ x ∈ l, x.f1.size ≤ 60) := by
  intro d
  induction d with
  | zero =>
    intro i hd hi hb
    refine ⟨decide ((l.length : Int) > 30), Evn.succ (Evn.neg (by omega) (Evn.succ (Evn.ret _))), fun h => ⟨by have := of_decide_eq_false h; omega, fun x hx => ?_⟩⟩
    obtain ⟨j, hj, rfl⟩ := List.getElem_of_mem hx
    exact hb j (by omega) hj
  | succ d ih =>
    intro i hd hi hb
    have h : i < l.length := by omega
    by_cases h31 : i < 31
    · by_cases hs : l[i].f1.size > 60
      · refine ⟨true, Evn.succ (Evn.pos (by omega) (Evn.succ (Evn.pos (by simp; omega) (Evn.pos (by omega) (Evn.pos (by omega) (Evn.pos (by rw [rdT l i h]; omega) (Evn.ret _))))))), fun h => by cases h⟩
      · obtain ⟨b, h1, h2⟩ := ih (i + 1) (by omega) (by omega) fun j hj hjl => by
          rcases Nat.lt_or_ge j i with h3 | h3
          · exact hb j h3 hjl
          · obtain rfl : j = i := by omega
            omega
        refine ⟨b, Evn.succ (Evn.pos (by omega) (Evn.succ (Evn.pos (by simp; omega) (Evn.pos (by omega) (Evn.pos (by omega) (Evn.neg (by rw [rdT l i h]; omega) ?_)))))), h2⟩
        rw [w1 h31 (by omega)]; exact h1
    · refine ⟨true, Evn.succ (Evn.pos (by omega) (Evn.succ (Evn.neg (by simp; omega) ((Evn.ret _).val ?_)))), fun h => by cases h⟩
      simp; omega
theorem long_ev (l : List Lr) : ∃ b, Evn (fun k => chaperonlaw10_long.f k l) b ∧ (b = false → l.length ≤ 30 ∧ ∀ x ∈ l, x.f1.size ≤ 60) :=
  long_l l l.length 0 (by omega) (by omega) fun j hj => by omega
theorem copy (l : List Lr) (hl : l.length < 4398046511104) : chaperonkit_CopyLayers.f l = some l := by
  unfold chaperonkit_CopyLayers.f
  rw [Option.bind_some, if_pos (by simpa using hl)]
  rfl
end Go.Proofs.Ytokfalcmkmelpaa.Pure
