/- Arguments opened: a kind of value as the print reads it, out of what is told of an argument. Over any program; this session's own. -/
import Derived.Test.YtimflmgdnfpodaaWLast
import Derived.Test.YtimflmgdnfpodaaWWords
import Derived.Deep.Slices
import Derived.ChangeArms
import Derived.WideShapes
import Derived.Carry
import Derived.OpenShut
namespace Go.Proofs.YtimflmgdnfpodaaOpen
open Go.RowKit Go.ChangeShapes Go.WideShapes Go.Deep Go.Proofs.YtimflmgdnfpodaaW.PrintLast Go.Proofs.YtimflmgdnfpodaaW.PrintWords
/-- What lies in cells that are read as a type's is a value of the kind. -/
structure Opens {α : Type} (P : Program) (d : Kd α) (t : TypeId) (wf : α → Prop) : Prop where
  out : ∀ {H : Type} {enc : TypeId × Value → H} {w : World} {base : Nat} {spare : Nat → Bool} {held : Bool} {fuel : Nat} {cs : List Value} {x : DataW H × List MemPlace},
    DataW.trod enc P w base spare held fuel t cs = some x → ∃ v, d.K w v cs ∧ wf v
section
variable {P : Program} {t : TypeId}
theorem opens_int {k : IntKind} (ht : P.underlying t = some (.int k)) : Opens P (Kd.int k) t fun n => (Lit.int k n).wf = true := by
  refine ⟨?_⟩
  intro H enc w base spare held fuel cs x h
  obtain ⟨n, rfl, _, hw⟩ := DataW.trod_int ht h
  exact ⟨n, rfl, hw⟩
theorem opens_bool (ht : P.underlying t = some .bool) : Opens P Kd.bool t fun _ => True := by
  refine ⟨?_⟩
  intro H enc w base spare held fuel cs x h
  obtain ⟨n, rfl, _⟩ := DataW.trod_bool ht h
  exact ⟨n, rfl, trivial⟩
theorem opens_string (ht : P.underlying t = some .string) : Opens P Kd.string t fun s => s.size ≤ maxLen := by
  refine ⟨?_⟩
  intro H enc w base spare held fuel cs x h
  obtain ⟨s, rfl, _, hs⟩ := DataW.trod_string ht h
  exact ⟨s, rfl, hs⟩
theorem opens_iso {α β : Type} {d : Kd α} {wf : α → Prop} (h : Opens P d t wf) {f : β → α} (g : α → β) (hg : ∀ v, f (g v) = v) : Opens P (Kd.iso d f) t fun x => wf (f x) := by
  refine ⟨?_⟩
  intro H enc w base spare held fuel cs x hh
  obtain ⟨v, hv, hw⟩ := h.out hh
  exact ⟨g v, by show d.K w (f (g v)) cs; rw [hg]; exact hv, by show wf (f (g v)); rw [hg]; exact hw⟩
/-- Fields from the i-th one on. -/
structure FOpens {α : Type} (P : Program) (fs : Array Field) (i off total : Nat) (d : Kd α) (wf : α → Prop) : Prop where
  out : ∀ {H : Type} {enc : TypeId × Value → H} {w : World} {base : Nat} {spare : Nat → Bool} {held : Bool} {n : Nat} {cs : List Value}, cs.length = total →
    (∀ (j : Nat) (f : Field), i ≤ j → fs[j]? = some f → ∃ y, DataW.trod enc P w base spare held n f.type ((cs.drop f.offset).take (P.cellsOf f.type)) = some y) → ∃ v, d.K w v (cs.drop off) ∧ wf v
theorem fopens_last {α : Type} {fs : Array Field} {i off total : Nat} {d : Kd α} {wf : α → Prop} {f : Field} (hf : fs[i]? = some f) (ho : f.offset = off) (hc : off + P.cellsOf f.type = total) (h : Opens P d f.type wf) : FOpens P fs i off total d wf := by
  refine ⟨?_⟩
  intro H enc w base spare held n cs hl hall
  obtain ⟨y, hy⟩ := hall i f (Nat.le_refl _) hf
  rw [ho, List.take_of_length_le (by rw [List.length_drop]; omega)] at hy
  exact h.out hy
theorem fopens_cons {α β : Type} {fs : Array Field} {i off total m : Nat} {d0 : Kd α} {d : Kd β} {wf0 : α → Prop} {wf : β → Prop} {f : Field} (hf : fs[i]? = some f) (ho : f.offset = off) (hc : P.cellsOf f.type = m) (h0 : Opens P d0 f.type wf0)
    (h : FOpens P fs (i + 1) (off + m) total d wf) : FOpens P fs i off total (Kd.pair d0 d) fun v => wf0 v.1 ∧ wf v.2 := by
  refine ⟨?_⟩
  intro H enc w base spare held n cs hl hall
  obtain ⟨y, hy⟩ := hall i f (Nat.le_refl _) hf
  obtain ⟨v0, hv0, hw0⟩ := h0.out hy
  obtain ⟨v1, hv1, hw1⟩ := h.out hl fun j f hj => hall j f (by omega)
  refine ⟨(v0, v1), ⟨_, _, ?_, hv0, hv1⟩, hw0, hw1⟩
  rw [ho, hc, ← List.drop_drop, List.take_append_drop]
theorem opens_struct {α : Type} {fs : Array Field} {total : Nat} {d : Kd α} {wf : α → Prop} (ht : P.underlying t = some (.struct fs)) (hc : P.cellsOf t = total) (h : FOpens P fs 0 0 total d wf) : Opens P d t wf := by
  refine ⟨?_⟩
  intro H enc w base spare held fuel cs x hh
  obtain ⟨xs, n, _, _, hl, hx, hf⟩ := DataW.trod_struct ht hh
  obtain ⟨v, hv, hw⟩ := h.out (w := w) (cs := cs) (by rw [hl, hc]) fun j f _ hj => ⟨_, (hf j f hj).trans (List.getElem?_eq_getElem (by rw [hx]; exact (Array.getElem?_eq_some_iff.1 hj).1))⟩
  exact ⟨v, by simpa using hv, hw⟩
theorem opens_slice {α : Type} {e : TypeId} {d : Kd α} {wf : α → Prop} (ht : P.underlying t = some (.slice e)) (hc : P.cellsOf e = d.sz) (h : Opens P d e wf) : Opens P (Kd.slice e d) t fun xs => xs.length ≤ maxLen ∧ ∀ x ∈ xs, wf x := by
  refine ⟨?_⟩
  intro H enc w base spare held fuel cs x hh
  rcases open_slice ht hh with ⟨rfl, _⟩ | ⟨a, len, cap, m, n, D, Pl, rfl, _, hl, hm, hmm, _, hi⟩
  · exact ⟨[], ⟨none, 0, rfl, Nat.le_refl _, Kd.C_nil _ _⟩, by simp, by simp⟩
  · have hlm : len ≤ m := by rw [hmm]; split <;> omega
    have hch : ∀ i, i < len → ∃ v, wf v ∧ ∃ cs', d.K w v cs' ∧ ∀ j u, cs'[j]? = some u → w.cell? (a.add (i * d.sz + j)) = some u := by
      intro i hil
      obtain ⟨cs', hc1, hc2⟩ := hi i (by omega)
      obtain ⟨v, hv, hw⟩ := h.out hc2
      obtain ⟨_, hcl, hat⟩ := World.cells?_some hc1
      refine ⟨v, hw, cs', hv, fun j u hu => ?_⟩
      have hj : j < cs'.length := (List.getElem?_eq_some_iff.1 hu).1
      rw [← Go.Deep.add_add, ← hu, ← hc]
      exact hat j (by omega)
    have hall : ∀ k, k ≤ len → ∃ xs : List α, xs.length = k ∧ (∀ x ∈ xs, wf x) ∧ ∀ i v, xs[i]? = some v → ∃ cs', d.K w v cs' ∧ ∀ j u, cs'[j]? = some u → w.cell? (a.add (i * d.sz + j)) = some u := by
      intro k
      induction k with
      | zero => exact fun _ => ⟨[], rfl, by simp, by simp⟩
      | succ k ih =>
        intro hk
        obtain ⟨xs, h1, h2, h3⟩ := ih (by omega)
        obtain ⟨v, hw, hv⟩ := hch k (by omega)
        refine ⟨xs ++ [v], by simp [h1], fun x hx => ?_, fun i u hu => ?_⟩
        · rcases List.mem_append.1 hx with hx | hx
          · exact h2 x hx
          · rw [List.mem_singleton.1 hx]; exact hw
        · rcases Nat.lt_or_ge i xs.length with hi' | hi'
          · rw [List.getElem?_append_left hi'] at hu; exact h3 i u hu
          · rw [List.getElem?_append_right hi'] at hu
            have : i - xs.length = 0 := by
              refine Classical.byContradiction fun hne => ?_
              rw [List.getElem?_eq_none (by simp; omega)] at hu; cases hu
            rw [this] at hu
            obtain rfl : v = u := by simpa using hu
            rw [show i = k by omega]; exact hv
    obtain ⟨xs, h1, h2, h3⟩ := hall len (Nat.le_refl _)
    have hmax : maxLen = 9223372036854775807 := rfl
    refine ⟨xs, ⟨some a, cap, by rw [h1], by omega, ?_⟩, by omega, h2⟩
    rw [h1]
    refine ⟨h1, by omega, fun _ => ⟨a, rfl, fun j p hj => ?_⟩⟩
    obtain ⟨cs', hk, hc'⟩ := h3 j p hj
    exact ⟨cs', d.K_len hk, hk, hc'⟩
/-- A slice that is handed in. -/
theorem opened_slice {α : Type} {e : TypeId} {d : Kd α} {wf : α → Prop} (h : Opens P (Kd.slice e d) t fun xs => xs.length ≤ maxLen ∧ ∀ x ∈ xs, wf x) {H : Type} {enc : TypeId × Value → H} {w : World} {base : Nat} {spare : Nat → Bool} {held : Bool} {a : Option Addr} {len cap : Nat} {y : DataW H} {ps : List MemPlace}
    (hh : DataW.Trod enc P w base spare held t (.slice a len cap) y ps) : ∃ xs : List α, len = xs.length ∧ Kd.C d w a xs.length xs ∧ xs.length ≤ cap ∧ xs.length ≤ maxLen ∧ ∀ x ∈ xs, wf x := by
  obtain ⟨fuel, hf⟩ := hh
  obtain ⟨xs, ⟨A, c, he, hl, hC⟩, hw1, hw2⟩ := h.out hf
  have he' : [Value.slice a len cap] = [Value.slice A xs.length c] := by simpa [Value.cells] using he
  injection he' with he1 _
  injection he1 with e1 e2 e3
  subst e1 e3
  exact ⟨xs, e2, hC, hl, hw1, hw2⟩
/-- A struct that is handed in. -/
theorem opened_struct {α : Type} {d : Kd α} {wf : α → Prop} (h : Opens P d t wf) {H : Type} {enc : TypeId × Value → H} {w : World} {base : Nat} {spare : Nat → Bool} {held : Bool} {cs : Array Value} {y : DataW H} {ps : List MemPlace}
    (hh : DataW.Trod enc P w base spare held t (.agg cs) y ps) : ∃ v, d.K w v cs.toList ∧ wf v := by
  obtain ⟨fuel, hf⟩ := hh
  exact h.out (by simpa [Value.cells] using hf)
end
end Go.Proofs.YtimflmgdnfpodaaOpen
