/- chain.marks. -/
import Derived.Test.YtokfalcmkmelpaaHChain2
namespace Go.Proofs.YtokfalcmkmelpaaHChain
set_option linter.unusedSimpArgs false
set_option linter.unusedVariables false
open Go.RowKit Go.Proofs.YtokfalcmkmelpaaW.PrintWords Go.Proofs.YtokfalcmkmelpaaW.PrintLast Go.Proofs.YtokfalcmkmelpaaRF Go.Proofs.YtokfalcmkmelpaaRG Go.Proofs.YtokfalcmkmelpaaMp
attribute [local go_sem] Oper.semAt_some

/-! ### what 'each' marks -/
abbrev Ents := List (Letter × Int × Nat)
theorem estep_off {ls : Nat → Lay} {f i : Int} {b : Bool} {L : Ents} {m : List Bool} (h : ¬ (b || i == f) = true) : estep ls f (b, L, m) i = (false, L, m) := by simp only [estep]; rw [if_neg h]
theorem estep_old {ls : Nat → Lay} {f i : Int} {b : Bool} {L : Ents} {m : List Bool} {v : Nat × Int} (h : (b || i == f) = true) (hf : findIdx keq (lt ls i) L 0 = some v) : estep ls f (b, L, m) i = (true, L, m) := by simp only [estep]; rw [if_pos h]; simp only [hf]
theorem estep_new {ls : Nat → Lay} {f i : Int} {b : Bool} {L : Ents} {m : List Bool} (h : (b || i == f) = true) (hf : findIdx keq (lt ls i) L 0 = none) : estep ls f (b, L, m) i = (true, L ++ [(lt ls i, i, L.length)], m.set i.toNat true) := by simp only [estep]; rw [if_pos h]; simp only [hf]
theorem each_nil (ls : Nat → Lay) (f : Int) : ∀ (pre : List Int) (b : Bool) (L : Ents) (m1 m2 : List Bool), (pre.foldl (estep ls f) (b, L, m1)).2.1 = (pre.foldl (estep ls f) (b, L, m2)).2.1
  | [], _, _, _, _ => rfl
  | x :: r, b, L, m1, m2 => by
    simp only [List.foldl_cons]
    by_cases hb : (b || x == f) = true
    · cases hf : findIdx keq (lt ls x) L 0 with
      | some v => rw [estep_old hb hf, estep_old hb hf]; exact each_nil ls f r true L m1 m2
      | none => rw [estep_new hb hf, estep_new hb hf]; exact each_nil ls f r true _ _ _
    · rw [estep_off hb, estep_off hb]; exact each_nil ls f r false L m1 m2
theorem each_sets (ls : Nat → Lay) (f : Int) : ∀ (pre : List Int) (b : Bool) (L : Ents) (ms : List Bool),
    (pre.foldl (estep ls f) (b, L, L.foldl (fun m e => m.set e.2.1.toNat true) ms)).2.2 = (pre.foldl (estep ls f) (b, L, [])).2.1.foldl (fun m e => m.set e.2.1.toNat true) ms
  | [], b, L, ms => rfl
  | x :: r, b, L, ms => by
    simp only [List.foldl_cons]
    by_cases hb : (b || x == f) = true
    · cases hf : findIdx keq (lt ls x) L 0 with
      | some v => rw [estep_old hb hf, estep_old hb hf]; exact each_sets ls f r true L ms
      | none =>
        rw [estep_new hb hf, estep_new hb hf]
        have := each_sets ls f r true (L ++ [(lt ls x, x, L.length)]) ms
        rw [List.foldl_append] at this
        rw [each_nil ls f r true (L ++ [(lt ls x, x, L.length)]) (([] : List Bool).set x.toNat true) []]
        exact this
    · rw [estep_off hb, estep_off hb]; exact each_sets ls f r false L ms

/-- The places that are marked from f on. -/
def eachL (ls : Nat → Lay) (N : Nat) (back : Bool) (f : Int) : Ents := (each ls f (idxs N back) []).2.1
def hits (ls : Nat → Lay) (N : Nat) (back : Bool) (f : Int) (i : Nat) : Bool := (eachL ls N back f).any fun e => e.2.1.toNat == i
theorem sets_get (i : Nat) : ∀ (L : Ents) (ms : List Bool), i < ms.length → (L.foldl (fun m e => m.set e.2.1.toNat true) ms).getD i false = (ms.getD i false || L.any fun e => e.2.1.toNat == i)
  | [], ms, _ => by simp
  | e :: r, ms, h => by
    rw [List.foldl_cons, sets_get i r _ (by simpa using h), List.any_cons]
    by_cases he : e.2.1.toNat = i
    · subst he; simp [h]
    · have : (e.2.1.toNat == i) = false := by simpa using he
      rw [this, Bool.false_or]
      congr 1
      simp [List.getElem?_set, he]
theorem each_get (ls : Nat → Lay) (N : Nat) (back : Bool) (f : Int) (ms : List Bool) (i : Nat) (h : i < ms.length) : (each ls f (idxs N back) ms).2.2.getD i false = (ms.getD i false || hits ls N back f i) := by
  have := each_sets ls f (idxs N back) false [] ms
  simp only [List.foldl_nil] at this
  unfold each
  rw [this, sets_get i _ _ h]
  rfl
theorem each_len (ls : Nat → Lay) (N : Nat) (back : Bool) (f : Int) (ms : List Bool) : (each ls f (idxs N back) ms).2.2.length = ms.length := foldl_len ls f _ _

/-- The first places of all letters. -/
def fstep (ls : Nat → Lay) (L : Ents) (i : Int) : Ents := match findIdx keq (lt ls i) L 0 with | some _ => L | none => L ++ [(lt ls i, i, L.length)]
def fsts (ls : Nat → Lay) (pre : List Int) : Ents := pre.foldl (fstep ls) []
theorem fstep_born (ls : Nat → Lay) (L : Ents) (i : Int) (h : L.map (·.2.2) = List.range L.length) : (fstep ls L i).map (·.2.2) = List.range (fstep ls L i).length := by
  unfold fstep
  split
  · exact h
  · simp [h, List.range_succ]
theorem fsts_born (ls : Nat → Lay) (pre : List Int) : (fsts ls pre).map (·.2.2) = List.range (fsts ls pre).length := by
  have : ∀ (pre : List Int) (L : Ents), L.map (·.2.2) = List.range L.length → (pre.foldl (fstep ls) L).map (·.2.2) = List.range (pre.foldl (fstep ls) L).length := by
    intro pre
    induction pre with
    | nil => intro L h; exact h
    | cons x r ih => intro L h; exact ih _ (fstep_born ls L x h)
  exact this pre [] rfl

/-- What lies in the row when those of 'seen' have been gone through. -/
def rowAt (ls : Nat → Lay) (N : Nat) (back : Bool) (F : Ents) (ms : List Bool) (seen : Nat → Bool) : List Bool :=
  (List.range N).map fun i => ms.getD i false || F.any fun e => seen e.2.2 && hits ls N back e.2.1 i
/-- What 'marks' leaves. -/
def marked (ls : Nat → Lay) (N : Nat) (back : Bool) (ms : List Bool) : List Bool := rowAt ls N back (fsts ls (idxs N back)) ms fun _ => true
theorem rowAt_start (ls : Nat → Lay) (N : Nat) (back : Bool) (F : Ents) (ms : List Bool) (h : ms.length = N) : rowAt ls N back F ms (fun _ => false) = ms := by
  refine List.ext_getElem? fun i => ?_
  unfold rowAt
  by_cases hi : i < N
  · simp [hi, h]
  · simp [hi, h]
theorem same_born : ∀ (F : Ents), (F.map (·.2.2)).Nodup → ∀ x ∈ F, ∀ e ∈ F, x.2.2 = e.2.2 → x = e
  | [], _, _, h, _, _, _ => by simp at h
  | y :: r, hnd, x, hx, e, he, hxe => by
    rw [List.map_cons, List.nodup_cons] at hnd
    rcases List.mem_cons.1 hx with hx0 | hx1 <;> rcases List.mem_cons.1 he with he0 | he1
    · rw [hx0, he0]
    · exact absurd (List.mem_map.2 ⟨e, he1, by rw [← hxe, hx0]⟩) hnd.1
    · exact absurd (List.mem_map.2 ⟨x, hx1, by rw [hxe, he0]⟩) hnd.1
    · exact same_born r hnd.2 x hx1 e he1 hxe
theorem rowAt_step (ls : Nat → Lay) (N : Nat) (back : Bool) (F : Ents) (ms : List Bool) (seen : Nat → Bool) (e : Letter × Int × Nat) (he : e ∈ F) (hn : (F.map (·.2.2)).Nodup) :
    (each ls e.2.1 (idxs N back) (rowAt ls N back F ms seen)).2.2 = rowAt ls N back F ms (fun b => seen b || b == e.2.2) := by
  have hlen : ∀ s, (rowAt ls N back F ms s).length = N := fun s => by simp [rowAt]
  have hget : ∀ s i, i < N → (rowAt ls N back F ms s).getD i false = (ms.getD i false || F.any fun e => s e.2.2 && hits ls N back e.2.1 i) := fun s i hi => by
    simp [rowAt, hi]
  refine List.ext_getElem (by rw [each_len, hlen, hlen]) fun i h1 h2 => ?_
  have hi : i < N := by rw [hlen] at h2; exact h2
  have hA := each_get ls N back e.2.1 (rowAt ls N back F ms seen) i (by rw [hlen]; exact hi)
  rw [hget seen i hi] at hA
  have hB := hget (fun b => seen b || b == e.2.2) i hi
  rw [List.getD_eq_getElem?_getD, List.getElem?_eq_getElem h1, Option.getD_some] at hA
  rw [List.getD_eq_getElem?_getD, List.getElem?_eq_getElem h2, Option.getD_some] at hB
  rw [hA, hB, Bool.or_assoc]
  congr 1
  rw [Bool.eq_iff_iff, Bool.or_eq_true, List.any_eq_true, List.any_eq_true]
  constructor
  · rintro (⟨x, hx, hh⟩ | hh)
    · rw [Bool.and_eq_true] at hh
      exact ⟨x, hx, by rw [Bool.and_eq_true, Bool.or_eq_true]; exact ⟨.inl hh.1, hh.2⟩⟩
    · exact ⟨e, he, by rw [Bool.and_eq_true, Bool.or_eq_true]; exact ⟨.inr (beq_self_eq_true _), hh⟩⟩
  · rintro ⟨x, hx, hh⟩
    rw [Bool.and_eq_true, Bool.or_eq_true] at hh
    rcases hh with ⟨hs | hs, hh⟩
    · exact .inl ⟨x, hx, by rw [Bool.and_eq_true]; exact ⟨hs, hh⟩⟩
    · have hxe := same_born F hn x hx e he (beq_iff_eq.1 hs)
      rw [hxe] at hh
      exact .inr hh
theorem rowAt_end (ls : Nat → Lay) (N : Nat) (back : Bool) (F : Ents) (ms : List Bool) (seen : Nat → Bool) (h : ∀ e ∈ F, seen e.2.2 = true) : rowAt ls N back F ms seen = rowAt ls N back F ms fun _ => true := by
  unfold rowAt
  refine List.map_congr_left fun i _ => ?_
  congr 1
  rw [Bool.eq_iff_iff, List.any_eq_true, List.any_eq_true]
  constructor
  · rintro ⟨e, he, hh⟩; rw [Bool.and_eq_true] at hh; exact ⟨e, he, by rw [Bool.true_and]; exact hh.2⟩
  · rintro ⟨e, he, hh⟩; rw [Bool.true_and] at hh; exact ⟨e, he, by rw [Bool.and_eq_true]; exact ⟨h e he, hh⟩⟩
end Go.Proofs.YtokfalcmkmelpaaHChain
