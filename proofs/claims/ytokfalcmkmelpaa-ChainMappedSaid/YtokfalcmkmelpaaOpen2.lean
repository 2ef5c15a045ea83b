/- An array of whole numbers that is handed in by value. -/
import Derived.Test.YtokfalcmkmelpaaOpen
namespace Go.Proofs.YtokfalcmkmelpaaOpen
open Go.RowKit Go.ChangeShapes Go.WideShapes Go.Deep Go.Proofs.YtokfalcmkmelpaaW.PrintLast Go.Proofs.YtokfalcmkmelpaaW.PrintWords
theorem okWide_array {P : Program} {w : World} {r : Reach} {base : Nat} {t : TypeId} {v : Value} {n : Nat} {e : TypeId} (ht : P.underlying t = some (.array n e)) (h : Value.okWide P w r base t v) : ∃ cs, v = .agg cs ∧ cs.size = P.cellsOf t := by
  simp only [Value.okWide, ht] at h
  obtain ⟨cs, h1, h2, _⟩ := h
  exact ⟨cs, h1, h2⟩
theorem opened_array {P : Program} {t e : TypeId} {k : IntKind} {n : Nat} (ht : P.underlying t = some (.array n e)) (he : P.underlying e = some (.int k)) (hc : P.cellsOf e = 1) (hn : P.cellsOf t = n)
    {H : Type} {enc : TypeId × Value → H} {w : World} {base : Nat} {spare : Nat → Bool} {held : Bool} {cs : Array Value} {y : DataW H} {ps : List MemPlace}
    (hh : DataW.Trod enc P w base spare held t (.agg cs) y ps) : ∃ f : Nat → Int, cs.toList = (List.range n).map fun i => .int k (f i) := by
  obtain ⟨fuel, hf⟩ := hh
  have hf' : DataW.trod enc P w base spare held fuel t cs.toList = some (y, ps) := by simpa [Value.cells] using hf
  obtain ⟨xs, m, _, _, hl, hx, hi⟩ := DataW.trod_array ht hf'
  rw [hn] at hl
  have hch : ∀ i, i < n → ∃ z, cs.toList[i]? = some (.int k z) := by
    intro i hin
    have h1 := hi i hin
    rw [hc, Nat.mul_one, List.getElem?_eq_getElem (by omega)] at h1
    obtain ⟨z, hz, _⟩ := DataW.trod_int he h1
    refine ⟨z, ?_⟩
    rw [List.drop_eq_getElem_cons (by omega)] at hz
    rw [List.getElem?_eq_getElem (by omega)]
    simpa using hz
  refine ⟨fun i => if h : i < n then (hch i h).choose else 0, List.ext_getElem? fun i => ?_⟩
  by_cases hin : i < n
  · rw [(hch i hin).choose_spec]
    simp [hin]
  · rw [List.getElem?_eq_none (by omega), List.getElem?_eq_none (by simp; omega)]
end Go.Proofs.YtokfalcmkmelpaaOpen
