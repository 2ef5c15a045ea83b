/- What functions with rounds tell from some round on. No program; this session's own. -/
import Derived.Below
namespace Go.Proofs.YtimflmgdnfpodaaEv
set_option linter.unusedVariables false
/-- From some round on g tells v. -/
def Evn {α : Type} (g : Nat → Option α) (v : α) : Prop := ∃ K, ∀ k, K ≤ k → g k = some v
section
variable {α β : Type}
theorem Evn.ret (v : α) : Evn (fun _ => some v) v := ⟨0, fun _ _ => rfl⟩
theorem Evn.const {a : Option α} {v : α} (h : a = some v) : Evn (fun _ => a) v := ⟨0, fun _ _ => h⟩
theorem Evn.bind {g : Nat → Option α} {h : Nat → α → Option β} {a : α} {b : β} (hg : Evn g a) (hh : Evn (fun k => h k a) b) : Evn (fun k => (g k).bind fun x => h k x) b := by
  obtain ⟨K1, h1⟩ := hg
  obtain ⟨K2, h2⟩ := hh
  exact ⟨max K1 K2, fun k hk => by show (g k).bind (fun x => h k x) = some b; rw [h1 k (by omega)]; exact h2 k (by omega)⟩
theorem Evn.cbind {a : Option α} {h : Nat → α → Option β} {v : α} {b : β} (ha : a = some v) (hh : Evn (fun k => h k v) b) : Evn (fun k => a.bind fun x => h k x) b := by
  subst ha
  exact hh
theorem Evn.succ {g : Nat → Option α} {v : α} (h : Evn (fun k => g (k + 1)) v) : Evn g v := by
  obtain ⟨K, h⟩ := h
  exact ⟨K + 1, fun k hk => by
    obtain ⟨j, rfl⟩ : ∃ j, k = j + 1 := ⟨k - 1, by omega⟩
    exact h j (by omega)⟩
theorem Evn.congr {g g' : Nat → Option α} {v : α} (e : ∀ k, g k = g' k) (h : Evn g' v) : Evn g v := by
  obtain ⟨K, h⟩ := h
  exact ⟨K, fun k hk => (e k).trans (h k hk)⟩
theorem Evn.pos {p : Prop} [Decidable p] {g h : Nat → Option α} {v : α} (hp : p) (hg : Evn g v) : Evn (fun k => if p then g k else h k) v := Evn.congr (fun k => if_pos hp) hg
theorem Evn.neg {p : Prop} [Decidable p] {g h : Nat → Option α} {v : α} (hp : ¬ p) (hg : Evn h v) : Evn (fun k => if p then g k else h k) v := Evn.congr (fun k => if_neg hp) hg
theorem Evn.ex {g : Nat → Option α} {v : α} (h : Evn g v) : ∃ k, g k = some v := by
  obtain ⟨K, h⟩ := h
  exact ⟨K, h K (Nat.le_refl _)⟩
theorem Evn.of {g : Nat → Option α} {v : α} (K : Nat) (h : ∀ k, K ≤ k → g k = some v) : Evn g v := ⟨K, h⟩
theorem Evn.val {g : Nat → Option α} {v v' : α} (h : Evn g v) (e : v = v') : Evn g v' := e ▸ h
end
end Go.Proofs.YtimflmgdnfpodaaEv
