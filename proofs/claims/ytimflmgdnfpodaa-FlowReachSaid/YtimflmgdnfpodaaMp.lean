/- Maps that a call makes: look-up, store, and the steps of a range over one, as equations; over any program. This session's own. -/
import Derived.Test.YtimflmgdnfpodaaRG
namespace Go.Proofs.YtimflmgdnfpodaaMp
open Go.RowKit Go.Proofs.YtimflmgdnfpodaaW.PrintWords Go.Proofs.YtimflmgdnfpodaaRF
open Go.Instr
set_option linter.unusedSimpArgs false
set_option linter.unusedVariables false

section
variable {α β : Type} (kenc : α → Value) (venc : β → Value)
def ent (e : α × β × Nat) : MapEntry := { key := kenc e.1, val := venc e.2.1, born := e.2.2 }
/-- Block B is a map with the entries L (key, value, when it came), its clock at c. -/
def MapObj (L : List (α × β × Nat)) (c : Nat) : Obj := .map (L.map (ent kenc venc)).toArray c
end

/-- What must be known of a key's type. -/
structure KeyLaw {α : Type} (P : Program) (K : TypeId) (kenc : α → Value) (keq : α → α → Bool) : Prop where
  check : ∀ e a w, (checkKey e 10000 K (kenc a)).run P w = .ok () w
  eq : ∀ a b w, (Op.equal K (kenc a) (kenc b)).run P w = .ok (keq a b) w
  now : ∃ d, P.underlying K = some d ∧ ∀ a b, sameNow d (kenc a) (kenc b) = none ∨ sameNow d (kenc a) (kenc b) = some (keq a b)
  bits : ∀ a b, keq a b = true → a = b ∧ sameBits 10000 (kenc b) (kenc a) = true

section
variable {α β : Type} {P : Program} {K : TypeId} {kenc : α → Value} {venc : β → Value} {keq : α → α → Bool}

def findIdx (keq : α → α → Bool) (k : α) : List (α × β × Nat) → Nat → Option (Nat × β)
  | [], _ => none
  | e :: r, i => if keq k e.1 = true then some (i, e.2.1) else findIdx keq k r (i + 1)

theorem findAsking_run (h : KeyLaw P K kenc keq) (k : α) (w : World) : ∀ (L : List (α × β × Nat)) (i : Nat), (findAsking K (kenc k) (L.map (ent kenc venc)) i).run P w = .ok ((findIdx keq k L i).map fun x => (x.1, venc x.2)) w
  | [], i => by simp [findAsking, findIdx, Sem.run_pure]
  | e :: r, i => by
    simp only [List.map_cons, findAsking, Sem.run_bind, ent, h.eq, Result.andThen, findIdx]
    cases hk : keq k e.1
    · simpa using findAsking_run h k w r (i + 1)
    · simp [Sem.run_pure]

theorem findNow_run {d : TypeDesc} (hs : ∀ a b, sameNow d (kenc a) (kenc b) = none ∨ sameNow d (kenc a) (kenc b) = some (keq a b)) (k : α) : ∀ (L : List (α × β × Nat)) (i : Nat) (r : Option (Nat × Value)), findNow d (kenc k) (L.map (ent kenc venc)) i = some r → r = (findIdx keq k L i).map fun x => (x.1, venc x.2)
  | [], i, r, h => by simp [findNow] at h; simp [findIdx, h]
  | e :: L, i, r, h => by
    simp only [List.map_cons, findNow, ent] at h
    rcases hs k e.1 with hn | hn
    · rw [hn] at h; cases h
    · rw [hn] at h
      cases hk : keq k e.1
      · rw [hk] at h; simp only [findIdx, hk, Bool.false_eq_true, if_false]; exact findNow_run hs k L (i + 1) r h
      · rw [hk] at h; simp only [Option.some.injEq] at h; simp [findIdx, hk, ← h]

theorem findKey_run (h : KeyLaw P K kenc keq) (k : α) (w : World) (L : List (α × β × Nat)) : (findKey K (kenc k) (L.map (ent kenc venc))).run P w = .ok ((findIdx keq k L 0).map fun x => (x.1, venc x.2)) w := by
  obtain ⟨d, hd, hs⟩ := h.now
  simp only [findKey, Sem.run_bind, run_underlying hd, Result.andThen]
  cases hf : findNow d (kenc k) (L.map (ent kenc venc)) 0 with
  | none => exact findAsking_run h k w L 0
  | some r => simp only [Sem.run_pure]; rw [findNow_run hs k L 0 r hf]

theorem run_getObj_map {w : World} {B : Nat} {es : Array MapEntry} {c : Nat} (h : w.heap[B]? = some (.map es c)) : (getObj B).run P w = .ok (.map es c) w := by simp [getObj, Sem.run, h]
theorem run_setObj_map {w : World} {B : Nat} {es : Array MapEntry} {c : Nat} (o : Obj) (h : w.heap[B]? = some (.map es c)) : (setObj B o).run P w = .ok () (w.putObj B o) := by simp [setObj, Sem.run, h, World.putObj]

/-- 'v, ok := m[k]'. -/
theorem lookup_ok (h : KeyLaw P K kenc keq) {T E : TypeId} (hT : P.underlying T = some (.map K E)) {z : Value} (hz : ∀ w, (zeroValue E).run P w = .ok z w) {w : World} {B : Nat} {L : List (α × β × Nat)} {c : Nat} (hB : w.heap[B]? = some (MapObj kenc venc L c)) (k : α) :
    (lookup T (.map (some B)) (kenc k) true).run P w = .ok (match findIdx keq k L 0 with | some (_, v) => .tuple #[venc v, .bool true] | none => .tuple #[z, .bool false]) w := by
  unfold MapObj at hB
  simp only [lookup, Sem.run_bind, run_underlying hT, Result.andThen, run_getObj_map hB, Sem.run_pure, h.check, List.toList_toArray, findKey_run h]
  cases hf : findIdx keq k L 0 with
  | none => simp [hz, Sem.run_bind, Result.andThen, Sem.run_pure]
  | some x => obtain ⟨i, v⟩ := x; simp [Sem.run_pure, Result.andThen]
theorem lookup_one (h : KeyLaw P K kenc keq) {T E : TypeId} (hT : P.underlying T = some (.map K E)) {z : Value} (hz : ∀ w, (zeroValue E).run P w = .ok z w) {w : World} {B : Nat} {L : List (α × β × Nat)} {c : Nat} (hB : w.heap[B]? = some (MapObj kenc venc L c)) (k : α) :
    (lookup T (.map (some B)) (kenc k) false).run P w = .ok (match findIdx keq k L 0 with | some (_, v) => venc v | none => z) w := by
  unfold MapObj at hB
  simp only [lookup, Sem.run_bind, run_underlying hT, Result.andThen, run_getObj_map hB, Sem.run_pure, h.check, List.toList_toArray, findKey_run h]
  cases hf : findIdx keq k L 0 with
  | none => simp [hz, Sem.run_bind, Result.andThen, Sem.run_pure]
  | some x => obtain ⟨i, v⟩ := x; simp [Sem.run_pure, Result.andThen]

/-- The entries behind 'm[k] = v'. -/
def upd (keq : α → α → Bool) (k : α) (v : β) (c : Nat) (L : List (α × β × Nat)) : List (α × β × Nat) × Nat :=
  match findIdx keq k L 0 with
  | some (i, _) => (L.modify i fun e => (k, v, e.2.2), c)
  | none => (L ++ [(k, v, c)], c + 1)

theorem findIdx_lt (k : α) : ∀ (L : List (α × β × Nat)) (n i : Nat) (v : β), findIdx keq k L n = some (i, v) → ∃ j, i = n + j ∧ j < L.length ∧ ∃ e, L[j]? = some e ∧ keq k e.1 = true
  | [], n, i, v, h => by simp [findIdx] at h
  | e :: r, n, i, v, h => by
    simp only [findIdx] at h
    by_cases hk : keq k e.1 = true
    · rw [if_pos hk] at h; cases h; exact ⟨0, rfl, by simp, e, rfl, hk⟩
    · rw [if_neg hk] at h
      obtain ⟨j, h1, h2, e', h3, h4⟩ := findIdx_lt k r (n + 1) i v h
      exact ⟨j + 1, by omega, by simp; omega, e', by simpa using h3, h4⟩

theorem update_run (h : KeyLaw P K kenc keq) {T E : TypeId} (hT : P.underlying T = some (.map K E)) {w : World} {B : Nat} {L : List (α × β × Nat)} {c : Nat} (hB : w.heap[B]? = some (MapObj kenc venc L c)) (k : α) (v : β) :
    (mapUpdate T (.map (some B)) (kenc k) (venc v)).run P w = .ok () (w.putObj B (MapObj kenc venc (upd keq k v c L).1 (upd keq k v c L).2)) := by
  have hB' := hB
  unfold MapObj at hB
  simp only [mapUpdate, Sem.run_bind, run_underlying hT, Result.andThen, run_getObj_map hB, h.check, List.toList_toArray, findKey_run h]
  cases hf : findIdx keq k L 0 with
  | none =>
    simp only [Option.map_none, run_setObj_map _ hB, upd, hf, MapObj]
    simp [ent]
  | some x =>
    obtain ⟨i, u⟩ := x
    obtain ⟨j, hj, hlt, e, he, hke⟩ := findIdx_lt k L 0 i u hf
    obtain rfl : i = j := by omega
    obtain ⟨h1, h2⟩ := h.bits k e.1 hke
    have hold : ((((L.map (ent kenc venc)).toArray[i]?).map (·.key)).getD (kenc k)) = kenc e.1 := by simp [he, ent]
    simp only [Option.map_some, Sem.run_bind, keyThatStays, hold, h2, if_true, Sem.run_pure, Result.andThen, run_setObj_map _ hB, upd, hf, MapObj]
    congr 3
    refine Array.ext' ?_
    rw [List.toList_toArray, Array.toList_modify, List.toList_toArray]
    refine List.ext_getElem? fun q => ?_
    simp only [List.getElem?_modify, List.getElem?_map]
    by_cases hq : i = q
    · subst hq; simp [he, ent]
    · simp [hq]

/-! ### A range over a map that nobody writes meanwhile -/
def left (seen : Array Nat) (L : List (α × β × Nat)) : List (α × β × Nat) := L.filter fun e => !seen.contains e.2.2

theorem run_getObj_iter {w : World} {R : Nat} {m : Option Nat} {s : Nat} {seen : Array Nat} {l : Nat} (h : w.heap[R]? = some (.mapIter m s seen l)) : (getObj R).run P w = .ok (.mapIter m s seen l) w := by simp [getObj, Sem.run, h]
theorem run_setObj_iter {w : World} {R : Nat} {m : Option Nat} {s : Nat} {seen : Array Nat} {l : Nat} (o : Obj) (h : w.heap[R]? = some (.mapIter m s seen l)) : (setObj R o).run P w = .ok () (w.putObj R o) := by simp [setObj, Sem.run, h, World.putObj]

theorem range_run {T E : TypeId} (hT : P.underlying T = some (.map K E)) {w : World} {B : Nat} {L : List (α × β × Nat)} {c : Nat} (hB : w.heap[B]? = some (MapObj kenc venc L c)) :
    (Instr.range T (.map (some B))).run P w = .ok (.pointer (some ⟨w.heap.size, 0, none⟩)) (w.alloc (.mapIter (some B) c #[] c)) := by
  unfold MapObj at hB
  simp only [Instr.range, Sem.run_bind, run_underlying hT, Result.andThen, run_getObj_map hB, Sem.run_pure, run_newObj_alloc]

theorem choose_run (q : Question) (w : World) : ∃ k w1, (choose q).run P w = .ok k w1 ∧ (w1 = w ∨ w1 = w.drew) ∧ (q.forced = true → k = 0 ∧ w1 = w) ∧ (q.forced = false → k = q.cut (w.tape w.drawn q)) := by
  unfold choose
  simp only [Sem.run]
  cases hf : q.forced
  · exact ⟨_, _, rfl, .inr rfl, (fun h => by simp at h), fun _ => rfl⟩
  · exact ⟨0, w, rfl, .inl rfl, fun _ => ⟨rfl, rfl⟩, (fun h => by simp at h)⟩

theorem next_run (T : TypeId) {w : World} {B R : Nat} {L : List (α × β × Nat)} {c : Nat} {seen : Array Nat} (hB : w.heap[B]? = some (MapObj kenc venc L c)) (hR : w.heap[R]? = some (.mapIter (some B) c seen c)) (hborn : ∀ e ∈ L, e.2.2 < c) :
    (left seen L = [] → (Instr.next (.pointer (some ⟨R, 0, none⟩)) false T).run P w = .ok (.tuple #[.bool false]) w) ∧
    (left seen L ≠ [] → ∃ e ∈ left seen L, ∃ w1, (w1 = w ∨ w1 = w.drew) ∧
      (Instr.next (.pointer (some ⟨R, 0, none⟩)) false T).run P w = .ok (.tuple #[.bool true, kenc e.1, venc e.2.1]) (w1.putObj R (.mapIter (some B) c (seen.push e.2.2) c))) := by
  unfold MapObj at hB
  have hguard : (!seen.isEmpty && !(L.map (ent kenc venc)).toArray.isEmpty && (L.map (ent kenc venc)).toArray.all (fun e => decide (e.born ≥ c))) = false := by
    cases L with
    | nil => simp
    | cons x r =>
      have := hborn x (by simp)
      have h2 : decide ((ent kenc venc x).born ≥ c) = false := by simp [ent]; omega
      simp [h2]
  have hleft : ((L.map (ent kenc venc)).toArray.filter fun e => !seen.contains e.born) = ((left seen L).map (ent kenc venc)).toArray := by
    rw [List.filter_toArray, List.filter_map]; rfl
  have hold : (((left seen L).map (ent kenc venc)).toArray.filter fun e => decide (e.born < c)) = ((left seen L).map (ent kenc venc)).toArray := by
    rw [List.filter_toArray, List.filter_map]
    congr 2
    refine List.filter_eq_self.2 fun e he => ?_
    have := hborn e (List.mem_filter.1 he).1
    exact decide_eq_true this
  have hnew : (((left seen L).map (ent kenc venc)).toArray.filter fun e => decide (e.born ≥ c)) = #[] := by
    rw [List.filter_toArray, List.filter_map]
    have : (left seen L).filter ((fun e : MapEntry => decide (e.born ≥ c)) ∘ ent kenc venc) = [] := by
      refine List.filter_eq_nil_iff.2 fun e he => ?_
      have := hborn e (List.mem_filter.1 he).1
      intro h; have h2 : e.2.2 ≥ c := of_decide_eq_true h; have h3 : e.2.2 < c := this; exact absurd h3 (Nat.not_lt.2 h2)
    rw [this]; rfl
  constructor
  · intro hl
    simp only [Instr.next, Sem.run_bind, run_getObj_iter hR, Result.andThen, run_getObj_map hB, hguard, Bool.false_eq_true, if_false, Sem.run_pure, hleft, hold, hnew, hl, List.map_nil]
    simp [choose, Sem.run, Question.forced, Sem.run_pure, Result.andThen]
  · intro hl
    have hne : ((left seen L).map (ent kenc venc)).toArray.isEmpty = false := by cases h : left seen L with | nil => exact absurd h hl | cons x r => simp
    obtain ⟨k, w1, hk, hw1, hk1, hk2⟩ := choose_run (P := P) (.mapNext (((left seen L).map (ent kenc venc)).toArray ++ #[]).size) w
    have hpos : 0 < (left seen L).length := List.length_pos_iff.2 hl
    have hlt : k < (left seen L).length := by
      cases hf : Question.forced (.mapNext (((left seen L).map (ent kenc venc)).toArray ++ #[]).size) with
      | true => rw [(hk1 hf).1]; exact hpos
      | false => rw [hk2 hf]; simp only [Question.cut]; simp; exact Nat.mod_lt _ hpos
    have hR1 : w1.heap[R]? = some (.mapIter (some B) c seen c) := by rcases hw1 with rfl | rfl <;> exact hR
    refine ⟨(left seen L)[k], List.getElem_mem hlt, w1, hw1, ?_⟩
    simp only [Instr.next, Sem.run_bind, run_getObj_iter hR, Result.andThen, run_getObj_map hB, hguard, Bool.false_eq_true, if_false, Sem.run_pure, hleft, hold, hnew, hne]
    have hsz : (#[] ++ Array.map some (((left seen L).map (ent kenc venc)).toArray ++ #[])).size = (((left seen L).map (ent kenc venc)).toArray ++ #[]).size := by simp
    rw [hsz, hk]
    have hget : (#[] ++ Array.map some (((left seen L).map (ent kenc venc)).toArray ++ #[]))[k]? = some (some (ent kenc venc (left seen L)[k])) := by simp [hlt]
    simp only [hget, Sem.run_bind, run_setObj_iter _ hR1, Result.andThen, Sem.run_pure, ent]

theorem find_born : ∀ (L : List (α × β × Nat)) (e : α × β × Nat), e ∈ L → (L.map (·.2.2)).Nodup → (L.map (ent kenc venc)).find? (fun x => x.born == e.2.2) = some (ent kenc venc e)
  | [], e, h, _ => by simp at h
  | x :: r, e, h, hn => by
    simp only [List.map_cons, List.nodup_cons] at hn
    simp only [List.map_cons, List.find?_cons, ent]
    rcases List.mem_cons.1 h with rfl | h
    · simp
    · have : (x.2.2 == e.2.2) = false := by
        simp only [beq_eq_false_iff_ne]
        intro he
        exact hn.1 (List.mem_map.2 ⟨e, h, he.symm⟩)
      simp only [this]
      exact find_born r e h hn.2

theorem entry_run {w : World} {B R : Nat} {L : List (α × β × Nat)} {c s : Nat} {seen : Array Nat} {e : α × β × Nat} (hB : w.heap[B]? = some (MapObj kenc venc L c)) (hR : w.heap[R]? = some (.mapIter (some B) s (seen.push e.2.2) c)) (he : e ∈ L) (hn : (L.map (·.2.2)).Nodup) :
    (Instr.entry (.pointer (some ⟨R, 0, none⟩))).run P w = .ok (.tuple #[kenc e.1, venc e.2.1]) w := by
  unfold MapObj at hB
  have hf : (L.map (ent kenc venc)).toArray.find? (fun x => x.born == e.2.2) = some (ent kenc venc e) := by
    rw [List.find?_toArray]; exact find_born L e he hn
  simp only [Instr.entry, Sem.run_bind, run_getObj_iter hR, Result.andThen, Array.back?_push, run_getObj_map hB, bne_self_eq_false, Bool.false_eq_true, if_false, Sem.run_pure, hf, ent]
theorem left_push {seen : Array Nat} {L : List (α × β × Nat)} {e : α × β × Nat} (he : e ∈ left seen L) : (left (seen.push e.2.2) L).length < (left seen L).length := by
  have h1 : left (seen.push e.2.2) L = (left seen L).filter fun x => !(x.2.2 == e.2.2) := by
    unfold left
    rw [List.filter_filter]
    refine List.filter_congr fun x _ => ?_
    by_cases h : x.2.2 = e.2.2 <;> simp [h, Bool.and_comm]
  rw [h1]
  exact List.length_filter_lt_length_iff_exists.2 ⟨e, he, by simp⟩
end
end Go.Proofs.YtimflmgdnfpodaaMp
