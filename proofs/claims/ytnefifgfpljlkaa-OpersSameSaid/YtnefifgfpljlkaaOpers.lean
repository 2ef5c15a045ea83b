/- opers' table of operations, and what looks into it. -/
import Derived.Test.YtnefifgfpljlkaaWords
import Derived.Test.YtnefifgfpljlkaaMp
import Derived.Test.YtnefifgfpljlkaaWEqStruct
import Derived.Test.YtnefifgfpljlkaaWAt
import Derived.Carry
import Derived.Laws.StructEq
namespace Go.Proofs.YtnefifgfpljlkaaOpers
open Go.RowKit Go.Proofs.YtnefifgfpljlkaaW.PrintWords Go.Proofs.YtnefifgfpljlkaaW.PrintLast Go.Proofs.YtnefifgfpljlkaaRF Go.Proofs.YtnefifgfpljlkaaRG Go.Proofs.YtnefifgfpljlkaaMp Go.Proofs.YtnefifgfpljlkaaWords
set_option linter.unusedSimpArgs false
set_option linter.unusedVariables false
attribute [local go_sem] Oper.semAt_some
theorem toList_inj {a b : ByteArray} (h : a.toList = b.toList) : a = b := by
  have h2 : a.data.toList = b.data.toList := by rw [Go.ByteArray.toList_eq, Go.ByteArray.toList_eq] at h; exact h
  exact ByteArray.ext (Array.toList_inj.1 h2)
theorem lit (a : Array UInt8) : (⟨a⟩ : ByteArray).toList = a.toList := by rw [Go.ByteArray.toList_eq]
theorem below_put {b : Nat} {A W : World} (h : Below b A W) {r : Nat} (hr : b ≤ r) (o : Obj) : Below b A (W.putObj r o) :=
  ⟨h.os, h.tape, h.output, by simpa using h.size, fun k hk => (World.putObj_heap_other (by omega)).trans (h.block k hk)⟩
def skeq (a b : ByteArray) : Bool := a.toList == b.toList
theorem str_law : KeyLaw Try.prog 9 Value.string skeq where
  check := fun e a w => by kernel_rfl
  eq := fun a b w => run_equalIn_string (P := Try.prog) (w := w) 9999 9 a b Try.underlying9
  now := ⟨_, Try.underlying9, fun a b => by
    by_cases h : Instr.sameNow (.string) (.string a) (.string b) = none
    · exact .inl h
    · right; simp [Instr.sameNow, skeq, beq_toListBytes] at h ⊢⟩
  bits := fun a b h => by
    simp only [skeq, beq_iff_eq] at h
    obtain rfl := toList_inj h
    exact ⟨rfl, by simp [Instr.sameBits]; exact (Go.MapKept.bytes_beq a a).mpr rfl⟩
/-- What an operation does, the types that it takes, its result (empty: the type). -/
def table (s : ByteArray) : Option (Nat × List ByteArray × ByteArray) :=
  if s.toList = [43] then some (47, [⟨#[105, 110, 116]⟩, ⟨#[114, 101, 97, 108]⟩, ⟨#[115, 116, 114]⟩], ⟨#[]⟩) else
  if s.toList = [45] then some (48, [⟨#[105, 110, 116]⟩, ⟨#[114, 101, 97, 108]⟩], ⟨#[]⟩) else
  if s.toList = [42] then some (49, [⟨#[105, 110, 116]⟩, ⟨#[114, 101, 97, 108]⟩], ⟨#[]⟩) else
  if s.toList = [47] then some (50, [⟨#[105, 110, 116]⟩, ⟨#[114, 101, 97, 108]⟩], ⟨#[]⟩) else
  if s.toList = [37] then some (51, [⟨#[105, 110, 116]⟩], ⟨#[]⟩) else
  if s.toList = [60] then some (52, [⟨#[105, 110, 116]⟩, ⟨#[114, 101, 97, 108]⟩], ⟨#[98, 111, 111, 108]⟩) else
  if s.toList = [60, 61] then some (53, [⟨#[105, 110, 116]⟩, ⟨#[114, 101, 97, 108]⟩], ⟨#[98, 111, 111, 108]⟩) else
  none
/-- A map that holds the table. -/
structure Holds (w : World) (B : Nat) : Prop where
  out : ∃ (L : List (ByteArray × Value × Nat)) (c : Nat), w.heap[B]? = some (MapObj Value.string (fun v => v) L c) ∧
    ∀ s, match table s with
      | none => findIdx skeq s L 0 = none
      | some (F, l, r) => ∃ i A c, findIdx skeq s L 0 = some (i, .agg #[.func (.func F) #[] #[], .slice A l.length c, .string r]) ∧ l.length ≤ c ∧ Kd.C Kd.string w A l.length l
theorem C_at {W : World} {g : Nat} {l : List ByteArray} (h : W.heap[g]? = some (.cells (l.map Value.string).toArray 9 (0, 0))) (hl : l.length ≤ 100) : Kd.C Kd.string W (some ⟨g, 0, none⟩) l.length l := by
  refine ⟨rfl, by omega, fun _ => ⟨⟨g, 0, none⟩, rfl, fun j p hj => ⟨[.string p], rfl, rfl, fun i u hu => ?_⟩⟩⟩
  cases i with
  | zero =>
    obtain rfl : Value.string p = u := by simpa using hu
    have := cell_at h j
    simp only [List.getElem?_toArray, List.getElem?_map, hj, Option.map_some] at this
    show W.cell? ((⟨g, 0, none⟩ : Addr).add (j * 1 + 0)) = _
    rw [add_plain]
    simpa using this
  | succ i => simp at hu
set_option maxHeartbeats 4000000 in
set_option maxRecDepth 100000 in
theorem opers_calls (w : World) : Calls Try.prog 29 #[] w fun e w' => ∃ B, e = .returned (.map (some B)) ∧ Below w.heap.size w w' ∧ Holds w' B := by
  obtain ⟨B, hB⟩ : ∃ B, B = w.heap.size := ⟨_, rfl⟩
  obtain ⟨W0, hW0⟩ : ∃ W : World, W = w.alloc (.map #[] 0) := ⟨_, rfl⟩
  have hmm : (Instr.makeMap 58 none).run Try.prog w = .ok (.map (some B)) W0 := by rw [hW0, hB]; rfl
  have HB0 := Aside0.mk (show Below w.heap.size w W0 by rw [hW0]; exact (Below.refl _ _).alloc (Nat.le_refl _) _)
  have HM0 := Aside0.mk (show W0.heap[B]? = some (MapObj Value.string (fun v => v) ([] : List (ByteArray × Value × Nat)) 0) by rw [hW0]; exact at_new _ _ hB)
  have HBW := Aside0.mk hB
  clear hB hW0
  go_enter Try.func29, Try.ntmps29
  obtain ⟨g0, hg0⟩ : ∃ g, g = W0.heap.size := ⟨_, rfl⟩
  have HG0 := Aside0.mk hg0
  have HN0 := Aside0.mk (show g0 ≠ B by have := lt_of_at HM0.out; omega)
  clear hg0
  go_wp2_with fail
  rw [← HG0.out]
  have hu := update_run (P := Try.prog) (T := 58) (venc := fun v : Value => v) str_law Try.underlying58 (at_alloc HM0.out (.cells #[.string ⟨#[105, 110, 116]⟩, .string ⟨#[114, 101, 97, 108]⟩, .string ⟨#[115, 116, 114]⟩] 9 (0, 0))) ⟨#[43]⟩ (.agg #[.func (.func 47) #[] #[], .slice (some ⟨g0, 0, none⟩) 3 3, .string ⟨#[]⟩])
  rw [show upd skeq ⟨#[43]⟩ (.agg #[.func (.func 47) #[] #[], .slice (some ⟨g0, 0, none⟩) 3 3, .string ⟨#[]⟩]) 0 ([] : List (ByteArray × Value × Nat)) = (([(⟨#[43]⟩, .agg #[.func (.func 47) #[] #[], .slice (some ⟨g0, 0, none⟩) 3 3, .string ⟨#[]⟩], 0)] : List (ByteArray × Value × Nat)), 1) by simp [upd, findIdx, skeq, lit]] at hu
  obtain ⟨W1, hW⟩ : ∃ x : World, x = (W0.alloc (.cells #[.string ⟨#[105, 110, 116]⟩, .string ⟨#[114, 101, 97, 108]⟩, .string ⟨#[115, 116, 114]⟩] 9 (0, 0))).putObj B (MapObj Value.string (fun v => v) ([(⟨#[43]⟩, .agg #[.func (.func 47) #[] #[], .slice (some ⟨g0, 0, none⟩) 3 3, .string ⟨#[]⟩], 0)] : List (ByteArray × Value × Nat)) 1) := ⟨_, rfl⟩
  simp only at hu
  rw [← hW] at hu
  rw [hu]
  have HM1 := Aside0.mk (show W1.heap[B]? = some (MapObj Value.string (fun v => v) ([(⟨#[43]⟩, .agg #[.func (.func 47) #[] #[], .slice (some ⟨g0, 0, none⟩) 3 3, .string ⟨#[]⟩], 0)] : List (ByteArray × Value × Nat)) 1) by rw [hW]; exact World.putObj_heap_same (lt_of_at (at_alloc HM0.out _)))
  have HB1 := Aside0.mk (show Below w.heap.size w W1 by rw [hW]; exact below_put (HB0.out.alloc HB0.out.size _) (Nat.le_of_eq HBW.out.symm) _)
  have HS0 := Aside0.mk (show W1.heap[g0]? = some (.cells #[.string ⟨#[105, 110, 116]⟩, .string ⟨#[114, 101, 97, 108]⟩, .string ⟨#[115, 116, 114]⟩] 9 (0, 0)) by rw [hW]; exact at_put (at_new _ _ HG0.out) HN0.out _)
  clear hu hW HM0 HB0 HG0 hmm
  obtain ⟨g1, hg1⟩ : ∃ g, g = W1.heap.size := ⟨_, rfl⟩
  have HG1 := Aside0.mk hg1
  have HN1 := Aside0.mk (show g1 ≠ B by have := lt_of_at HM1.out; omega)
  clear hg1
  go_wp2_with fail
  rw [← HG1.out]
  have hu := update_run (P := Try.prog) (T := 58) (venc := fun v : Value => v) str_law Try.underlying58 (at_alloc HM1.out (.cells #[.string ⟨#[105, 110, 116]⟩, .string ⟨#[114, 101, 97, 108]⟩] 9 (0, 0))) ⟨#[45]⟩ (.agg #[.func (.func 48) #[] #[], .slice (some ⟨g1, 0, none⟩) 2 2, .string ⟨#[]⟩])
  rw [show upd skeq ⟨#[45]⟩ (.agg #[.func (.func 48) #[] #[], .slice (some ⟨g1, 0, none⟩) 2 2, .string ⟨#[]⟩]) 1 ([(⟨#[43]⟩, .agg #[.func (.func 47) #[] #[], .slice (some ⟨g0, 0, none⟩) 3 3, .string ⟨#[]⟩], 0)] : List (ByteArray × Value × Nat)) = (([(⟨#[43]⟩, .agg #[.func (.func 47) #[] #[], .slice (some ⟨g0, 0, none⟩) 3 3, .string ⟨#[]⟩], 0), (⟨#[45]⟩, .agg #[.func (.func 48) #[] #[], .slice (some ⟨g1, 0, none⟩) 2 2, .string ⟨#[]⟩], 1)] : List (ByteArray × Value × Nat)), 2) by simp [upd, findIdx, skeq, lit]] at hu
  obtain ⟨W2, hW⟩ : ∃ x : World, x = (W1.alloc (.cells #[.string ⟨#[105, 110, 116]⟩, .string ⟨#[114, 101, 97, 108]⟩] 9 (0, 0))).putObj B (MapObj Value.string (fun v => v) ([(⟨#[43]⟩, .agg #[.func (.func 47) #[] #[], .slice (some ⟨g0, 0, none⟩) 3 3, .string ⟨#[]⟩], 0), (⟨#[45]⟩, .agg #[.func (.func 48) #[] #[], .slice (some ⟨g1, 0, none⟩) 2 2, .string ⟨#[]⟩], 1)] : List (ByteArray × Value × Nat)) 2) := ⟨_, rfl⟩
  simp only at hu
  rw [← hW] at hu
  rw [hu]
  have HM2 := Aside0.mk (show W2.heap[B]? = some (MapObj Value.string (fun v => v) ([(⟨#[43]⟩, .agg #[.func (.func 47) #[] #[], .slice (some ⟨g0, 0, none⟩) 3 3, .string ⟨#[]⟩], 0), (⟨#[45]⟩, .agg #[.func (.func 48) #[] #[], .slice (some ⟨g1, 0, none⟩) 2 2, .string ⟨#[]⟩], 1)] : List (ByteArray × Value × Nat)) 2) by rw [hW]; exact World.putObj_heap_same (lt_of_at (at_alloc HM1.out _)))
  have HB2 := Aside0.mk (show Below w.heap.size w W2 by rw [hW]; exact below_put (HB1.out.alloc HB1.out.size _) (Nat.le_of_eq HBW.out.symm) _)
  replace HS0 := Aside0.mk (show W2.heap[g0]? = some (.cells #[.string ⟨#[105, 110, 116]⟩, .string ⟨#[114, 101, 97, 108]⟩, .string ⟨#[115, 116, 114]⟩] 9 (0, 0)) by rw [hW]; exact at_put (at_alloc HS0.out _) HN0.out _)
  have HS1 := Aside0.mk (show W2.heap[g1]? = some (.cells #[.string ⟨#[105, 110, 116]⟩, .string ⟨#[114, 101, 97, 108]⟩] 9 (0, 0)) by rw [hW]; exact at_put (at_new _ _ HG1.out) HN1.out _)
  clear hu hW HM1 HB1 HG1
  obtain ⟨g2, hg2⟩ : ∃ g, g = W2.heap.size := ⟨_, rfl⟩
  have HG2 := Aside0.mk hg2
  have HN2 := Aside0.mk (show g2 ≠ B by have := lt_of_at HM2.out; omega)
  clear hg2
  go_wp2_with fail
  rw [← HG2.out]
  have hu := update_run (P := Try.prog) (T := 58) (venc := fun v : Value => v) str_law Try.underlying58 (at_alloc HM2.out (.cells #[.string ⟨#[105, 110, 116]⟩, .string ⟨#[114, 101, 97, 108]⟩] 9 (0, 0))) ⟨#[42]⟩ (.agg #[.func (.func 49) #[] #[], .slice (some ⟨g2, 0, none⟩) 2 2, .string ⟨#[]⟩])
  rw [show upd skeq ⟨#[42]⟩ (.agg #[.func (.func 49) #[] #[], .slice (some ⟨g2, 0, none⟩) 2 2, .string ⟨#[]⟩]) 2 ([(⟨#[43]⟩, .agg #[.func (.func 47) #[] #[], .slice (some ⟨g0, 0, none⟩) 3 3, .string ⟨#[]⟩], 0), (⟨#[45]⟩, .agg #[.func (.func 48) #[] #[], .slice (some ⟨g1, 0, none⟩) 2 2, .string ⟨#[]⟩], 1)] : List (ByteArray × Value × Nat)) = (([(⟨#[43]⟩, .agg #[.func (.func 47) #[] #[], .slice (some ⟨g0, 0, none⟩) 3 3, .string ⟨#[]⟩], 0), (⟨#[45]⟩, .agg #[.func (.func 48) #[] #[], .slice (some ⟨g1, 0, none⟩) 2 2, .string ⟨#[]⟩], 1), (⟨#[42]⟩, .agg #[.func (.func 49) #[] #[], .slice (some ⟨g2, 0, none⟩) 2 2, .string ⟨#[]⟩], 2)] : List (ByteArray × Value × Nat)), 3) by simp [upd, findIdx, skeq, lit]] at hu
  obtain ⟨W3, hW⟩ : ∃ x : World, x = (W2.alloc (.cells #[.string ⟨#[105, 110, 116]⟩, .string ⟨#[114, 101, 97, 108]⟩] 9 (0, 0))).putObj B (MapObj Value.string (fun v => v) ([(⟨#[43]⟩, .agg #[.func (.func 47) #[] #[], .slice (some ⟨g0, 0, none⟩) 3 3, .string ⟨#[]⟩], 0), (⟨#[45]⟩, .agg #[.func (.func 48) #[] #[], .slice (some ⟨g1, 0, none⟩) 2 2, .string ⟨#[]⟩], 1), (⟨#[42]⟩, .agg #[.func (.func 49) #[] #[], .slice (some ⟨g2, 0, none⟩) 2 2, .string ⟨#[]⟩], 2)] : List (ByteArray × Value × Nat)) 3) := ⟨_, rfl⟩
  simp only at hu
  rw [← hW] at hu
  rw [hu]
  have HM3 := Aside0.mk (show W3.heap[B]? = some (MapObj Value.string (fun v => v) ([(⟨#[43]⟩, .agg #[.func (.func 47) #[] #[], .slice (some ⟨g0, 0, none⟩) 3 3, .string ⟨#[]⟩], 0), (⟨#[45]⟩, .agg #[.func (.func 48) #[] #[], .slice (some ⟨g1, 0, none⟩) 2 2, .string ⟨#[]⟩], 1), (⟨#[42]⟩, .agg #[.func (.func 49) #[] #[], .slice (some ⟨g2, 0, none⟩) 2 2, .string ⟨#[]⟩], 2)] : List (ByteArray × Value × Nat)) 3) by rw [hW]; exact World.putObj_heap_same (lt_of_at (at_alloc HM2.out _)))
  have HB3 := Aside0.mk (show Below w.heap.size w W3 by rw [hW]; exact below_put (HB2.out.alloc HB2.out.size _) (Nat.le_of_eq HBW.out.symm) _)
  replace HS0 := Aside0.mk (show W3.heap[g0]? = some (.cells #[.string ⟨#[105, 110, 116]⟩, .string ⟨#[114, 101, 97, 108]⟩, .string ⟨#[115, 116, 114]⟩] 9 (0, 0)) by rw [hW]; exact at_put (at_alloc HS0.out _) HN0.out _)
  replace HS1 := Aside0.mk (show W3.heap[g1]? = some (.cells #[.string ⟨#[105, 110, 116]⟩, .string ⟨#[114, 101, 97, 108]⟩] 9 (0, 0)) by rw [hW]; exact at_put (at_alloc HS1.out _) HN1.out _)
  have HS2 := Aside0.mk (show W3.heap[g2]? = some (.cells #[.string ⟨#[105, 110, 116]⟩, .string ⟨#[114, 101, 97, 108]⟩] 9 (0, 0)) by rw [hW]; exact at_put (at_new _ _ HG2.out) HN2.out _)
  clear hu hW HM2 HB2 HG2
  obtain ⟨g3, hg3⟩ : ∃ g, g = W3.heap.size := ⟨_, rfl⟩
  have HG3 := Aside0.mk hg3
  have HN3 := Aside0.mk (show g3 ≠ B by have := lt_of_at HM3.out; omega)
  clear hg3
  go_wp2_with fail
  rw [← HG3.out]
  have hu := update_run (P := Try.prog) (T := 58) (venc := fun v : Value => v) str_law Try.underlying58 (at_alloc HM3.out (.cells #[.string ⟨#[105, 110, 116]⟩, .string ⟨#[114, 101, 97, 108]⟩] 9 (0, 0))) ⟨#[47]⟩ (.agg #[.func (.func 50) #[] #[], .slice (some ⟨g3, 0, none⟩) 2 2, .string ⟨#[]⟩])
  rw [show upd skeq ⟨#[47]⟩ (.agg #[.func (.func 50) #[] #[], .slice (some ⟨g3, 0, none⟩) 2 2, .string ⟨#[]⟩]) 3 ([(⟨#[43]⟩, .agg #[.func (.func 47) #[] #[], .slice (some ⟨g0, 0, none⟩) 3 3, .string ⟨#[]⟩], 0), (⟨#[45]⟩, .agg #[.func (.func 48) #[] #[], .slice (some ⟨g1, 0, none⟩) 2 2, .string ⟨#[]⟩], 1), (⟨#[42]⟩, .agg #[.func (.func 49) #[] #[], .slice (some ⟨g2, 0, none⟩) 2 2, .string ⟨#[]⟩], 2)] : List (ByteArray × Value × Nat)) = (([(⟨#[43]⟩, .agg #[.func (.func 47) #[] #[], .slice (some ⟨g0, 0, none⟩) 3 3, .string ⟨#[]⟩], 0), (⟨#[45]⟩, .agg #[.func (.func 48) #[] #[], .slice (some ⟨g1, 0, none⟩) 2 2, .string ⟨#[]⟩], 1), (⟨#[42]⟩, .agg #[.func (.func 49) #[] #[], .slice (some ⟨g2, 0, none⟩) 2 2, .string ⟨#[]⟩], 2), (⟨#[47]⟩, .agg #[.func (.func 50) #[] #[], .slice (some ⟨g3, 0, none⟩) 2 2, .string ⟨#[]⟩], 3)] : List (ByteArray × Value × Nat)), 4) by simp [upd, findIdx, skeq, lit]] at hu
  obtain ⟨W4, hW⟩ : ∃ x : World, x = (W3.alloc (.cells #[.string ⟨#[105, 110, 116]⟩, .string ⟨#[114, 101, 97, 108]⟩] 9 (0, 0))).putObj B (MapObj Value.string (fun v => v) ([(⟨#[43]⟩, .agg #[.func (.func 47) #[] #[], .slice (some ⟨g0, 0, none⟩) 3 3, .string ⟨#[]⟩], 0), (⟨#[45]⟩, .agg #[.func (.func 48) #[] #[], .slice (some ⟨g1, 0, none⟩) 2 2, .string ⟨#[]⟩], 1), (⟨#[42]⟩, .agg #[.func (.func 49) #[] #[], .slice (some ⟨g2, 0, none⟩) 2 2, .string ⟨#[]⟩], 2), (⟨#[47]⟩, .agg #[.func (.func 50) #[] #[], .slice (some ⟨g3, 0, none⟩) 2 2, .string ⟨#[]⟩], 3)] : List (ByteArray × Value × Nat)) 4) := ⟨_, rfl⟩
  simp only at hu
  rw [← hW] at hu
  rw [hu]
  have HM4 := Aside0.mk (show W4.heap[B]? = some (MapObj Value.string (fun v => v) ([(⟨#[43]⟩, .agg #[.func (.func 47) #[] #[], .slice (some ⟨g0, 0, none⟩) 3 3, .string ⟨#[]⟩], 0), (⟨#[45]⟩, .agg #[.func (.func 48) #[] #[], .slice (some ⟨g1, 0, none⟩) 2 2, .string ⟨#[]⟩], 1), (⟨#[42]⟩, .agg #[.func (.func 49) #[] #[], .slice (some ⟨g2, 0, none⟩) 2 2, .string ⟨#[]⟩], 2), (⟨#[47]⟩, .agg #[.func (.func 50) #[] #[], .slice (some ⟨g3, 0, none⟩) 2 2, .string ⟨#[]⟩], 3)] : List (ByteArray × Value × Nat)) 4) by rw [hW]; exact World.putObj_heap_same (lt_of_at (at_alloc HM3.out _)))
  have HB4 := Aside0.mk (show Below w.heap.size w W4 by rw [hW]; exact below_put (HB3.out.alloc HB3.out.size _) (Nat.le_of_eq HBW.out.symm) _)
  replace HS0 := Aside0.mk (show W4.heap[g0]? = some (.cells #[.string ⟨#[105, 110, 116]⟩, .string ⟨#[114, 101, 97, 108]⟩, .string ⟨#[115, 116, 114]⟩] 9 (0, 0)) by rw [hW]; exact at_put (at_alloc HS0.out _) HN0.out _)
  replace HS1 := Aside0.mk (show W4.heap[g1]? = some (.cells #[.string ⟨#[105, 110, 116]⟩, .string ⟨#[114, 101, 97, 108]⟩] 9 (0, 0)) by rw [hW]; exact at_put (at_alloc HS1.out _) HN1.out _)
  replace HS2 := Aside0.mk (show W4.heap[g2]? = some (.cells #[.string ⟨#[105, 110, 116]⟩, .string ⟨#[114, 101, 97, 108]⟩] 9 (0, 0)) by rw [hW]; exact at_put (at_alloc HS2.out _) HN2.out _)
  have HS3 := Aside0.mk (show W4.heap[g3]? = some (.cells #[.string ⟨#[105, 110, 116]⟩, .string ⟨#[114, 101, 97, 108]⟩] 9 (0, 0)) by rw [hW]; exact at_put (at_new _ _ HG3.out) HN3.out _)
  clear hu hW HM3 HB3 HG3
  obtain ⟨g4, hg4⟩ : ∃ g, g = W4.heap.size := ⟨_, rfl⟩
  have HG4 := Aside0.mk hg4
  have HN4 := Aside0.mk (show g4 ≠ B by have := lt_of_at HM4.out; omega)
  clear hg4
  go_wp2_with fail
  rw [← HG4.out]
  have hu := update_run (P := Try.prog) (T := 58) (venc := fun v : Value => v) str_law Try.underlying58 (at_alloc HM4.out (.cells #[.string ⟨#[105, 110, 116]⟩] 9 (0, 0))) ⟨#[37]⟩ (.agg #[.func (.func 51) #[] #[], .slice (some ⟨g4, 0, none⟩) 1 1, .string ⟨#[]⟩])
  rw [show upd skeq ⟨#[37]⟩ (.agg #[.func (.func 51) #[] #[], .slice (some ⟨g4, 0, none⟩) 1 1, .string ⟨#[]⟩]) 4 ([(⟨#[43]⟩, .agg #[.func (.func 47) #[] #[], .slice (some ⟨g0, 0, none⟩) 3 3, .string ⟨#[]⟩], 0), (⟨#[45]⟩, .agg #[.func (.func 48) #[] #[], .slice (some ⟨g1, 0, none⟩) 2 2, .string ⟨#[]⟩], 1), (⟨#[42]⟩, .agg #[.func (.func 49) #[] #[], .slice (some ⟨g2, 0, none⟩) 2 2, .string ⟨#[]⟩], 2), (⟨#[47]⟩, .agg #[.func (.func 50) #[] #[], .slice (some ⟨g3, 0, none⟩) 2 2, .string ⟨#[]⟩], 3)] : List (ByteArray × Value × Nat)) = (([(⟨#[43]⟩, .agg #[.func (.func 47) #[] #[], .slice (some ⟨g0, 0, none⟩) 3 3, .string ⟨#[]⟩], 0), (⟨#[45]⟩, .agg #[.func (.func 48) #[] #[], .slice (some ⟨g1, 0, none⟩) 2 2, .string ⟨#[]⟩], 1), (⟨#[42]⟩, .agg #[.func (.func 49) #[] #[], .slice (some ⟨g2, 0, none⟩) 2 2, .string ⟨#[]⟩], 2), (⟨#[47]⟩, .agg #[.func (.func 50) #[] #[], .slice (some ⟨g3, 0, none⟩) 2 2, .string ⟨#[]⟩], 3), (⟨#[37]⟩, .agg #[.func (.func 51) #[] #[], .slice (some ⟨g4, 0, none⟩) 1 1, .string ⟨#[]⟩], 4)] : List (ByteArray × Value × Nat)), 5) by simp [upd, findIdx, skeq, lit]] at hu
  obtain ⟨W5, hW⟩ : ∃ x : World, x = (W4.alloc (.cells #[.string ⟨#[105, 110, 116]⟩] 9 (0, 0))).putObj B (MapObj Value.string (fun v => v) ([(⟨#[43]⟩, .agg #[.func (.func 47) #[] #[], .slice (some ⟨g0, 0, none⟩) 3 3, .string ⟨#[]⟩], 0), (⟨#[45]⟩, .agg #[.func (.func 48) #[] #[], .slice (some ⟨g1, 0, none⟩) 2 2, .string ⟨#[]⟩], 1), (⟨#[42]⟩, .agg #[.func (.func 49) #[] #[], .slice (some ⟨g2, 0, none⟩) 2 2, .string ⟨#[]⟩], 2), (⟨#[47]⟩, .agg #[.func (.func 50) #[] #[], .slice (some ⟨g3, 0, none⟩) 2 2, .string ⟨#[]⟩], 3), (⟨#[37]⟩, .agg #[.func (.func 51) #[] #[], .slice (some ⟨g4, 0, none⟩) 1 1, .string ⟨#[]⟩], 4)] : List (ByteArray × Value × Nat)) 5) := ⟨_, rfl⟩
  simp only at hu
  rw [← hW] at hu
  rw [hu]
  have HM5 := Aside0.mk (show W5.heap[B]? = some (MapObj Value.string (fun v => v) ([(⟨#[43]⟩, .agg #[.func (.func 47) #[] #[], .slice (some ⟨g0, 0, none⟩) 3 3, .string ⟨#[]⟩], 0), (⟨#[45]⟩, .agg #[.func (.func 48) #[] #[], .slice (some ⟨g1, 0, none⟩) 2 2, .string ⟨#[]⟩], 1), (⟨#[42]⟩, .agg #[.func (.func 49) #[] #[], .slice (some ⟨g2, 0, none⟩) 2 2, .string ⟨#[]⟩], 2), (⟨#[47]⟩, .agg #[.func (.func 50) #[] #[], .slice (some ⟨g3, 0, none⟩) 2 2, .string ⟨#[]⟩], 3), (⟨#[37]⟩, .agg #[.func (.func 51) #[] #[], .slice (some ⟨g4, 0, none⟩) 1 1, .string ⟨#[]⟩], 4)] : List (ByteArray × Value × Nat)) 5) by rw [hW]; exact World.putObj_heap_same (lt_of_at (at_alloc HM4.out _)))
  have HB5 := Aside0.mk (show Below w.heap.size w W5 by rw [hW]; exact below_put (HB4.out.alloc HB4.out.size _) (Nat.le_of_eq HBW.out.symm) _)
  replace HS0 := Aside0.mk (show W5.heap[g0]? = some (.cells #[.string ⟨#[105, 110, 116]⟩, .string ⟨#[114, 101, 97, 108]⟩, .string ⟨#[115, 116, 114]⟩] 9 (0, 0)) by rw [hW]; exact at_put (at_alloc HS0.out _) HN0.out _)
  replace HS1 := Aside0.mk (show W5.heap[g1]? = some (.cells #[.string ⟨#[105, 110, 116]⟩, .string ⟨#[114, 101, 97, 108]⟩] 9 (0, 0)) by rw [hW]; exact at_put (at_alloc HS1.out _) HN1.out _)
  replace HS2 := Aside0.mk (show W5.heap[g2]? = some (.cells #[.string ⟨#[105, 110, 116]⟩, .string ⟨#[114, 101, 97, 108]⟩] 9 (0, 0)) by rw [hW]; exact at_put (at_alloc HS2.out _) HN2.out _)
  replace HS3 := Aside0.mk (show W5.heap[g3]? = some (.cells #[.string ⟨#[105, 110, 116]⟩, .string ⟨#[114, 101, 97, 108]⟩] 9 (0, 0)) by rw [hW]; exact at_put (at_alloc HS3.out _) HN3.out _)
  have HS4 := Aside0.mk (show W5.heap[g4]? = some (.cells #[.string ⟨#[105, 110, 116]⟩] 9 (0, 0)) by rw [hW]; exact at_put (at_new _ _ HG4.out) HN4.out _)
  clear hu hW HM4 HB4 HG4
  obtain ⟨g5, hg5⟩ : ∃ g, g = W5.heap.size := ⟨_, rfl⟩
  have HG5 := Aside0.mk hg5
  have HN5 := Aside0.mk (show g5 ≠ B by have := lt_of_at HM5.out; omega)
  clear hg5
  go_wp2_with fail
  rw [← HG5.out]
  have hu := update_run (P := Try.prog) (T := 58) (venc := fun v : Value => v) str_law Try.underlying58 (at_alloc HM5.out (.cells #[.string ⟨#[105, 110, 116]⟩, .string ⟨#[114, 101, 97, 108]⟩] 9 (0, 0))) ⟨#[60]⟩ (.agg #[.func (.func 52) #[] #[], .slice (some ⟨g5, 0, none⟩) 2 2, .string ⟨#[98, 111, 111, 108]⟩])
  rw [show upd skeq ⟨#[60]⟩ (.agg #[.func (.func 52) #[] #[], .slice (some ⟨g5, 0, none⟩) 2 2, .string ⟨#[98, 111, 111, 108]⟩]) 5 ([(⟨#[43]⟩, .agg #[.func (.func 47) #[] #[], .slice (some ⟨g0, 0, none⟩) 3 3, .string ⟨#[]⟩], 0), (⟨#[45]⟩, .agg #[.func (.func 48) #[] #[], .slice (some ⟨g1, 0, none⟩) 2 2, .string ⟨#[]⟩], 1), (⟨#[42]⟩, .agg #[.func (.func 49) #[] #[], .slice (some ⟨g2, 0, none⟩) 2 2, .string ⟨#[]⟩], 2), (⟨#[47]⟩, .agg #[.func (.func 50) #[] #[], .slice (some ⟨g3, 0, none⟩) 2 2, .string ⟨#[]⟩], 3), (⟨#[37]⟩, .agg #[.func (.func 51) #[] #[], .slice (some ⟨g4, 0, none⟩) 1 1, .string ⟨#[]⟩], 4)] : List (ByteArray × Value × Nat)) = (([(⟨#[43]⟩, .agg #[.func (.func 47) #[] #[], .slice (some ⟨g0, 0, none⟩) 3 3, .string ⟨#[]⟩], 0), (⟨#[45]⟩, .agg #[.func (.func 48) #[] #[], .slice (some ⟨g1, 0, none⟩) 2 2, .string ⟨#[]⟩], 1), (⟨#[42]⟩, .agg #[.func (.func 49) #[] #[], .slice (some ⟨g2, 0, none⟩) 2 2, .string ⟨#[]⟩], 2), (⟨#[47]⟩, .agg #[.func (.func 50) #[] #[], .slice (some ⟨g3, 0, none⟩) 2 2, .string ⟨#[]⟩], 3), (⟨#[37]⟩, .agg #[.func (.func 51) #[] #[], .slice (some ⟨g4, 0, none⟩) 1 1, .string ⟨#[]⟩], 4), (⟨#[60]⟩, .agg #[.func (.func 52) #[] #[], .slice (some ⟨g5, 0, none⟩) 2 2, .string ⟨#[98, 111, 111, 108]⟩], 5)] : List (ByteArray × Value × Nat)), 6) by simp [upd, findIdx, skeq, lit]] at hu
  obtain ⟨W6, hW⟩ : ∃ x : World, x = (W5.alloc (.cells #[.string ⟨#[105, 110, 116]⟩, .string ⟨#[114, 101, 97, 108]⟩] 9 (0, 0))).putObj B (MapObj Value.string (fun v => v) ([(⟨#[43]⟩, .agg #[.func (.func 47) #[] #[], .slice (some ⟨g0, 0, none⟩) 3 3, .string ⟨#[]⟩], 0), (⟨#[45]⟩, .agg #[.func (.func 48) #[] #[], .slice (some ⟨g1, 0, none⟩) 2 2, .string ⟨#[]⟩], 1), (⟨#[42]⟩, .agg #[.func (.func 49) #[] #[], .slice (some ⟨g2, 0, none⟩) 2 2, .string ⟨#[]⟩], 2), (⟨#[47]⟩, .agg #[.func (.func 50) #[] #[], .slice (some ⟨g3, 0, none⟩) 2 2, .string ⟨#[]⟩], 3), (⟨#[37]⟩, .agg #[.func (.func 51) #[] #[], .slice (some ⟨g4, 0, none⟩) 1 1, .string ⟨#[]⟩], 4), (⟨#[60]⟩, .agg #[.func (.func 52) #[] #[], .slice (some ⟨g5, 0, none⟩) 2 2, .string ⟨#[98, 111, 111, 108]⟩], 5)] : List (ByteArray × Value × Nat)) 6) := ⟨_, rfl⟩
  simp only at hu
  rw [← hW] at hu
  rw [hu]
  have HM6 := Aside0.mk (show W6.heap[B]? = some (MapObj Value.string (fun v => v) ([(⟨#[43]⟩, .agg #[.func (.func 47) #[] #[], .slice (some ⟨g0, 0, none⟩) 3 3, .string ⟨#[]⟩], 0), (⟨#[45]⟩, .agg #[.func (.func 48) #[] #[], .slice (some ⟨g1, 0, none⟩) 2 2, .string ⟨#[]⟩], 1), (⟨#[42]⟩, .agg #[.func (.func 49) #[] #[], .slice (some ⟨g2, 0, none⟩) 2 2, .string ⟨#[]⟩], 2), (⟨#[47]⟩, .agg #[.func (.func 50) #[] #[], .slice (some ⟨g3, 0, none⟩) 2 2, .string ⟨#[]⟩], 3), (⟨#[37]⟩, .agg #[.func (.func 51) #[] #[], .slice (some ⟨g4, 0, none⟩) 1 1, .string ⟨#[]⟩], 4), (⟨#[60]⟩, .agg #[.func (.func 52) #[] #[], .slice (some ⟨g5, 0, none⟩) 2 2, .string ⟨#[98, 111, 111, 108]⟩], 5)] : List (ByteArray × Value × Nat)) 6) by rw [hW]; exact World.putObj_heap_same (lt_of_at (at_alloc HM5.out _)))
  have HB6 := Aside0.mk (show Below w.heap.size w W6 by rw [hW]; exact below_put (HB5.out.alloc HB5.out.size _) (Nat.le_of_eq HBW.out.symm) _)
  replace HS0 := Aside0.mk (show W6.heap[g0]? = some (.cells #[.string ⟨#[105, 110, 116]⟩, .string ⟨#[114, 101, 97, 108]⟩, .string ⟨#[115, 116, 114]⟩] 9 (0, 0)) by rw [hW]; exact at_put (at_alloc HS0.out _) HN0.out _)
  replace HS1 := Aside0.mk (show W6.heap[g1]? = some (.cells #[.string ⟨#[105, 110, 116]⟩, .string ⟨#[114, 101, 97, 108]⟩] 9 (0, 0)) by rw [hW]; exact at_put (at_alloc HS1.out _) HN1.out _)
  replace HS2 := Aside0.mk (show W6.heap[g2]? = some (.cells #[.string ⟨#[105, 110, 116]⟩, .string ⟨#[114, 101, 97, 108]⟩] 9 (0, 0)) by rw [hW]; exact at_put (at_alloc HS2.out _) HN2.out _)
  replace HS3 := Aside0.mk (show W6.heap[g3]? = some (.cells #[.string ⟨#[105, 110, 116]⟩, .string ⟨#[114, 101, 97, 108]⟩] 9 (0, 0)) by rw [hW]; exact at_put (at_alloc HS3.out _) HN3.out _)
  replace HS4 := Aside0.mk (show W6.heap[g4]? = some (.cells #[.string ⟨#[105, 110, 116]⟩] 9 (0, 0)) by rw [hW]; exact at_put (at_alloc HS4.out _) HN4.out _)
  have HS5 := Aside0.mk (show W6.heap[g5]? = some (.cells #[.string ⟨#[105, 110, 116]⟩, .string ⟨#[114, 101, 97, 108]⟩] 9 (0, 0)) by rw [hW]; exact at_put (at_new _ _ HG5.out) HN5.out _)
  clear hu hW HM5 HB5 HG5
  obtain ⟨g6, hg6⟩ : ∃ g, g = W6.heap.size := ⟨_, rfl⟩
  have HG6 := Aside0.mk hg6
  have HN6 := Aside0.mk (show g6 ≠ B by have := lt_of_at HM6.out; omega)
  clear hg6
  go_wp2_with fail
  rw [← HG6.out]
  have hu := update_run (P := Try.prog) (T := 58) (venc := fun v : Value => v) str_law Try.underlying58 (at_alloc HM6.out (.cells #[.string ⟨#[105, 110, 116]⟩, .string ⟨#[114, 101, 97, 108]⟩] 9 (0, 0))) ⟨#[60, 61]⟩ (.agg #[.func (.func 53) #[] #[], .slice (some ⟨g6, 0, none⟩) 2 2, .string ⟨#[98, 111, 111, 108]⟩])
  rw [show upd skeq ⟨#[60, 61]⟩ (.agg #[.func (.func 53) #[] #[], .slice (some ⟨g6, 0, none⟩) 2 2, .string ⟨#[98, 111, 111, 108]⟩]) 6 ([(⟨#[43]⟩, .agg #[.func (.func 47) #[] #[], .slice (some ⟨g0, 0, none⟩) 3 3, .string ⟨#[]⟩], 0), (⟨#[45]⟩, .agg #[.func (.func 48) #[] #[], .slice (some ⟨g1, 0, none⟩) 2 2, .string ⟨#[]⟩], 1), (⟨#[42]⟩, .agg #[.func (.func 49) #[] #[], .slice (some ⟨g2, 0, none⟩) 2 2, .string ⟨#[]⟩], 2), (⟨#[47]⟩, .agg #[.func (.func 50) #[] #[], .slice (some ⟨g3, 0, none⟩) 2 2, .string ⟨#[]⟩], 3), (⟨#[37]⟩, .agg #[.func (.func 51) #[] #[], .slice (some ⟨g4, 0, none⟩) 1 1, .string ⟨#[]⟩], 4), (⟨#[60]⟩, .agg #[.func (.func 52) #[] #[], .slice (some ⟨g5, 0, none⟩) 2 2, .string ⟨#[98, 111, 111, 108]⟩], 5)] : List (ByteArray × Value × Nat)) = (([(⟨#[43]⟩, .agg #[.func (.func 47) #[] #[], .slice (some ⟨g0, 0, none⟩) 3 3, .string ⟨#[]⟩], 0), (⟨#[45]⟩, .agg #[.func (.func 48) #[] #[], .slice (some ⟨g1, 0, none⟩) 2 2, .string ⟨#[]⟩], 1), (⟨#[42]⟩, .agg #[.func (.func 49) #[] #[], .slice (some ⟨g2, 0, none⟩) 2 2, .string ⟨#[]⟩], 2), (⟨#[47]⟩, .agg #[.func (.func 50) #[] #[], .slice (some ⟨g3, 0, none⟩) 2 2, .string ⟨#[]⟩], 3), (⟨#[37]⟩, .agg #[.func (.func 51) #[] #[], .slice (some ⟨g4, 0, none⟩) 1 1, .string ⟨#[]⟩], 4), (⟨#[60]⟩, .agg #[.func (.func 52) #[] #[], .slice (some ⟨g5, 0, none⟩) 2 2, .string ⟨#[98, 111, 111, 108]⟩], 5), (⟨#[60, 61]⟩, .agg #[.func (.func 53) #[] #[], .slice (some ⟨g6, 0, none⟩) 2 2, .string ⟨#[98, 111, 111, 108]⟩], 6)] : List (ByteArray × Value × Nat)), 7) by simp [upd, findIdx, skeq, lit]] at hu
  obtain ⟨W7, hW⟩ : ∃ x : World, x = (W6.alloc (.cells #[.string ⟨#[105, 110, 116]⟩, .string ⟨#[114, 101, 97, 108]⟩] 9 (0, 0))).putObj B (MapObj Value.string (fun v => v) ([(⟨#[43]⟩, .agg #[.func (.func 47) #[] #[], .slice (some ⟨g0, 0, none⟩) 3 3, .string ⟨#[]⟩], 0), (⟨#[45]⟩, .agg #[.func (.func 48) #[] #[], .slice (some ⟨g1, 0, none⟩) 2 2, .string ⟨#[]⟩], 1), (⟨#[42]⟩, .agg #[.func (.func 49) #[] #[], .slice (some ⟨g2, 0, none⟩) 2 2, .string ⟨#[]⟩], 2), (⟨#[47]⟩, .agg #[.func (.func 50) #[] #[], .slice (some ⟨g3, 0, none⟩) 2 2, .string ⟨#[]⟩], 3), (⟨#[37]⟩, .agg #[.func (.func 51) #[] #[], .slice (some ⟨g4, 0, none⟩) 1 1, .string ⟨#[]⟩], 4), (⟨#[60]⟩, .agg #[.func (.func 52) #[] #[], .slice (some ⟨g5, 0, none⟩) 2 2, .string ⟨#[98, 111, 111, 108]⟩], 5), (⟨#[60, 61]⟩, .agg #[.func (.func 53) #[] #[], .slice (some ⟨g6, 0, none⟩) 2 2, .string ⟨#[98, 111, 111, 108]⟩], 6)] : List (ByteArray × Value × Nat)) 7) := ⟨_, rfl⟩
  simp only at hu
  rw [← hW] at hu
  rw [hu]
  have HM7 := Aside0.mk (show W7.heap[B]? = some (MapObj Value.string (fun v => v) ([(⟨#[43]⟩, .agg #[.func (.func 47) #[] #[], .slice (some ⟨g0, 0, none⟩) 3 3, .string ⟨#[]⟩], 0), (⟨#[45]⟩, .agg #[.func (.func 48) #[] #[], .slice (some ⟨g1, 0, none⟩) 2 2, .string ⟨#[]⟩], 1), (⟨#[42]⟩, .agg #[.func (.func 49) #[] #[], .slice (some ⟨g2, 0, none⟩) 2 2, .string ⟨#[]⟩], 2), (⟨#[47]⟩, .agg #[.func (.func 50) #[] #[], .slice (some ⟨g3, 0, none⟩) 2 2, .string ⟨#[]⟩], 3), (⟨#[37]⟩, .agg #[.func (.func 51) #[] #[], .slice (some ⟨g4, 0, none⟩) 1 1, .string ⟨#[]⟩], 4), (⟨#[60]⟩, .agg #[.func (.func 52) #[] #[], .slice (some ⟨g5, 0, none⟩) 2 2, .string ⟨#[98, 111, 111, 108]⟩], 5), (⟨#[60, 61]⟩, .agg #[.func (.func 53) #[] #[], .slice (some ⟨g6, 0, none⟩) 2 2, .string ⟨#[98, 111, 111, 108]⟩], 6)] : List (ByteArray × Value × Nat)) 7) by rw [hW]; exact World.putObj_heap_same (lt_of_at (at_alloc HM6.out _)))
  have HB7 := Aside0.mk (show Below w.heap.size w W7 by rw [hW]; exact below_put (HB6.out.alloc HB6.out.size _) (Nat.le_of_eq HBW.out.symm) _)
  replace HS0 := Aside0.mk (show W7.heap[g0]? = some (.cells #[.string ⟨#[105, 110, 116]⟩, .string ⟨#[114, 101, 97, 108]⟩, .string ⟨#[115, 116, 114]⟩] 9 (0, 0)) by rw [hW]; exact at_put (at_alloc HS0.out _) HN0.out _)
  replace HS1 := Aside0.mk (show W7.heap[g1]? = some (.cells #[.string ⟨#[105, 110, 116]⟩, .string ⟨#[114, 101, 97, 108]⟩] 9 (0, 0)) by rw [hW]; exact at_put (at_alloc HS1.out _) HN1.out _)
  replace HS2 := Aside0.mk (show W7.heap[g2]? = some (.cells #[.string ⟨#[105, 110, 116]⟩, .string ⟨#[114, 101, 97, 108]⟩] 9 (0, 0)) by rw [hW]; exact at_put (at_alloc HS2.out _) HN2.out _)
  replace HS3 := Aside0.mk (show W7.heap[g3]? = some (.cells #[.string ⟨#[105, 110, 116]⟩, .string ⟨#[114, 101, 97, 108]⟩] 9 (0, 0)) by rw [hW]; exact at_put (at_alloc HS3.out _) HN3.out _)
  replace HS4 := Aside0.mk (show W7.heap[g4]? = some (.cells #[.string ⟨#[105, 110, 116]⟩] 9 (0, 0)) by rw [hW]; exact at_put (at_alloc HS4.out _) HN4.out _)
  replace HS5 := Aside0.mk (show W7.heap[g5]? = some (.cells #[.string ⟨#[105, 110, 116]⟩, .string ⟨#[114, 101, 97, 108]⟩] 9 (0, 0)) by rw [hW]; exact at_put (at_alloc HS5.out _) HN5.out _)
  have HS6 := Aside0.mk (show W7.heap[g6]? = some (.cells #[.string ⟨#[105, 110, 116]⟩, .string ⟨#[114, 101, 97, 108]⟩] 9 (0, 0)) by rw [hW]; exact at_put (at_new _ _ HG6.out) HN6.out _)
  clear hu hW HM6 HB6 HG6
  go_wp2_with fail
  go_ret
  refine ⟨B, rfl, HB7.out, ⟨⟨_, 7, HM7.out, fun s => ?_⟩⟩⟩
  by_cases h0 : s.toList = [43]
  · have e : table s = some (47, [⟨#[105, 110, 116]⟩, ⟨#[114, 101, 97, 108]⟩, ⟨#[115, 116, 114]⟩], ⟨#[]⟩) := by unfold table; rw [if_pos h0]
    rw [e]
    obtain rfl : s = ⟨#[43]⟩ := toList_inj (h0.trans (lit _).symm)
    exact ⟨0, some ⟨g0, 0, none⟩, 3, by simp [findIdx, skeq, lit], Nat.le_refl _, C_at HS0.out (by decide)⟩
  by_cases h1 : s.toList = [45]
  · have e : table s = some (48, [⟨#[105, 110, 116]⟩, ⟨#[114, 101, 97, 108]⟩], ⟨#[]⟩) := by unfold table; rw [if_neg h0, if_pos h1]
    rw [e]
    obtain rfl : s = ⟨#[45]⟩ := toList_inj (h1.trans (lit _).symm)
    exact ⟨1, some ⟨g1, 0, none⟩, 2, by simp [findIdx, skeq, lit], Nat.le_refl _, C_at HS1.out (by decide)⟩
  by_cases h2 : s.toList = [42]
  · have e : table s = some (49, [⟨#[105, 110, 116]⟩, ⟨#[114, 101, 97, 108]⟩], ⟨#[]⟩) := by unfold table; rw [if_neg h0, if_neg h1, if_pos h2]
    rw [e]
    obtain rfl : s = ⟨#[42]⟩ := toList_inj (h2.trans (lit _).symm)
    exact ⟨2, some ⟨g2, 0, none⟩, 2, by simp [findIdx, skeq, lit], Nat.le_refl _, C_at HS2.out (by decide)⟩
  by_cases h3 : s.toList = [47]
  · have e : table s = some (50, [⟨#[105, 110, 116]⟩, ⟨#[114, 101, 97, 108]⟩], ⟨#[]⟩) := by unfold table; rw [if_neg h0, if_neg h1, if_neg h2, if_pos h3]
    rw [e]
    obtain rfl : s = ⟨#[47]⟩ := toList_inj (h3.trans (lit _).symm)
    exact ⟨3, some ⟨g3, 0, none⟩, 2, by simp [findIdx, skeq, lit], Nat.le_refl _, C_at HS3.out (by decide)⟩
  by_cases h4 : s.toList = [37]
  · have e : table s = some (51, [⟨#[105, 110, 116]⟩], ⟨#[]⟩) := by unfold table; rw [if_neg h0, if_neg h1, if_neg h2, if_neg h3, if_pos h4]
    rw [e]
    obtain rfl : s = ⟨#[37]⟩ := toList_inj (h4.trans (lit _).symm)
    exact ⟨4, some ⟨g4, 0, none⟩, 1, by simp [findIdx, skeq, lit], Nat.le_refl _, C_at HS4.out (by decide)⟩
  by_cases h5 : s.toList = [60]
  · have e : table s = some (52, [⟨#[105, 110, 116]⟩, ⟨#[114, 101, 97, 108]⟩], ⟨#[98, 111, 111, 108]⟩) := by unfold table; rw [if_neg h0, if_neg h1, if_neg h2, if_neg h3, if_neg h4, if_pos h5]
    rw [e]
    obtain rfl : s = ⟨#[60]⟩ := toList_inj (h5.trans (lit _).symm)
    exact ⟨5, some ⟨g5, 0, none⟩, 2, by simp [findIdx, skeq, lit], Nat.le_refl _, C_at HS5.out (by decide)⟩
  by_cases h6 : s.toList = [60, 61]
  · have e : table s = some (53, [⟨#[105, 110, 116]⟩, ⟨#[114, 101, 97, 108]⟩], ⟨#[98, 111, 111, 108]⟩) := by unfold table; rw [if_neg h0, if_neg h1, if_neg h2, if_neg h3, if_neg h4, if_neg h5, if_pos h6]
    rw [e]
    obtain rfl : s = ⟨#[60, 61]⟩ := toList_inj (h6.trans (lit _).symm)
    exact ⟨6, some ⟨g6, 0, none⟩, 2, by simp [findIdx, skeq, lit], Nat.le_refl _, C_at HS6.out (by decide)⟩
  have e : table s = none := by unfold table; rw [if_neg h0, if_neg h1, if_neg h2, if_neg h3, if_neg h4, if_neg h5, if_neg h6]
  rw [e]
  simp [findIdx, skeq, lit, h0, h1, h2, h3, h4, h5, h6]
end Go.Proofs.YtnefifgfpljlkaaOpers
