/- ints: the table of operations, Do. -/
import Derived.Test.YtnefifgfpljlkaaOpers
namespace Go.Proofs.YtnefifgfpljlkaaInts
open Go.RowKit Go.Proofs.YtnefifgfpljlkaaW.PrintWords Go.Proofs.YtnefifgfpljlkaaW.PrintLast Go.Proofs.YtnefifgfpljlkaaRF Go.Proofs.YtnefifgfpljlkaaRG Go.Proofs.YtnefifgfpljlkaaMp Go.Proofs.YtnefifgfpljlkaaWords Go.Proofs.YtnefifgfpljlkaaOpers
set_option linter.unusedSimpArgs false
set_option linter.unusedVariables false
attribute [local go_sem] Oper.semAt_some
/-- What an operation does, and whether its second number may not be 0. -/
def way (s : ByteArray) : Option (Nat × Bool) :=
  if s.toList = [43] then some (85, false) else
  if s.toList = [45] then some (86, false) else
  if s.toList = [42] then some (87, false) else
  if s.toList = [47] then some (88, true) else
  if s.toList = [37] then some (89, true) else
  none
structure HoldsW (w : World) (B : Nat) : Prop where
  out : ∃ (L : List (ByteArray × Value × Nat)) (c : Nat), w.heap[B]? = some (MapObj Value.string (fun v => v) L c) ∧
    ∀ s, match way s with
      | none => findIdx skeq s L 0 = none
      | some (F, z) => ∃ i, findIdx skeq s L 0 = some (i, .agg #[.func (.func F) #[] #[], .bool z])
set_option maxHeartbeats 4000000 in
set_option maxRecDepth 100000 in
theorem ways_calls (w : World) : Calls Try.prog 80 #[] w fun e w' => ∃ B, e = .returned (.map (some B)) ∧ Below w.heap.size w w' ∧ HoldsW w' B := by
  obtain ⟨B, hB⟩ : ∃ B, B = w.heap.size := ⟨_, rfl⟩
  obtain ⟨W0, hW0⟩ : ∃ W : World, W = w.alloc (.map #[] 0) := ⟨_, rfl⟩
  have hmm : (Instr.makeMap 102 none).run Try.prog w = .ok (.map (some B)) W0 := by rw [hW0, hB]; rfl
  have hmf : ∀ (fn : Fn) (first cap : Array Value) (w : World), (Instr.makeFunc fn first cap).run Try.prog w = .ok (.func fn first cap) w := fun _ _ _ _ => rfl
  have HB0 := Aside0.mk (show Below w.heap.size w W0 by rw [hW0]; exact (Below.refl _ _).alloc (Nat.le_refl _) _)
  have HM0 := Aside0.mk (show W0.heap[B]? = some (MapObj Value.string (fun v => v) ([] : List (ByteArray × Value × Nat)) 0) by rw [hW0]; exact at_new _ _ hB)
  have HBW := Aside0.mk hB
  clear hB hW0
  go_enter Try.func80, Try.ntmps80
  go_wp2_with fail
  have hu := update_run (P := Try.prog) (T := 102) (venc := fun v : Value => v) str_law Try.underlying102 HM0.out ⟨#[43]⟩ (.agg #[.func (.func 85) #[] #[], .bool false])
  rw [show upd skeq ⟨#[43]⟩ (.agg #[.func (.func 85) #[] #[], .bool false]) 0 ([] : List (ByteArray × Value × Nat)) = (([(⟨#[43]⟩, .agg #[.func (.func 85) #[] #[], .bool false], 0)] : List (ByteArray × Value × Nat)), 1) by simp [upd, findIdx, skeq, lit]] at hu
  obtain ⟨W1, hW⟩ : ∃ x : World, x = W0.putObj B (MapObj Value.string (fun v => v) ([(⟨#[43]⟩, .agg #[.func (.func 85) #[] #[], .bool false], 0)] : List (ByteArray × Value × Nat)) 1) := ⟨_, rfl⟩
  simp only at hu
  rw [← hW] at hu
  rw [hu]
  have HM1 := Aside0.mk (show W1.heap[B]? = some (MapObj Value.string (fun v => v) ([(⟨#[43]⟩, .agg #[.func (.func 85) #[] #[], .bool false], 0)] : List (ByteArray × Value × Nat)) 1) by rw [hW]; exact World.putObj_heap_same (lt_of_at HM0.out))
  have HB1 := Aside0.mk (show Below w.heap.size w W1 by rw [hW]; exact below_put HB0.out (Nat.le_of_eq HBW.out.symm) _)
  clear hu hW HM0 HB0 hmm
  go_wp2_with fail
  have hu := update_run (P := Try.prog) (T := 102) (venc := fun v : Value => v) str_law Try.underlying102 HM1.out ⟨#[45]⟩ (.agg #[.func (.func 86) #[] #[], .bool false])
  rw [show upd skeq ⟨#[45]⟩ (.agg #[.func (.func 86) #[] #[], .bool false]) 1 ([(⟨#[43]⟩, .agg #[.func (.func 85) #[] #[], .bool false], 0)] : List (ByteArray × Value × Nat)) = (([(⟨#[43]⟩, .agg #[.func (.func 85) #[] #[], .bool false], 0), (⟨#[45]⟩, .agg #[.func (.func 86) #[] #[], .bool false], 1)] : List (ByteArray × Value × Nat)), 2) by simp [upd, findIdx, skeq, lit]] at hu
  obtain ⟨W2, hW⟩ : ∃ x : World, x = W1.putObj B (MapObj Value.string (fun v => v) ([(⟨#[43]⟩, .agg #[.func (.func 85) #[] #[], .bool false], 0), (⟨#[45]⟩, .agg #[.func (.func 86) #[] #[], .bool false], 1)] : List (ByteArray × Value × Nat)) 2) := ⟨_, rfl⟩
  simp only at hu
  rw [← hW] at hu
  rw [hu]
  have HM2 := Aside0.mk (show W2.heap[B]? = some (MapObj Value.string (fun v => v) ([(⟨#[43]⟩, .agg #[.func (.func 85) #[] #[], .bool false], 0), (⟨#[45]⟩, .agg #[.func (.func 86) #[] #[], .bool false], 1)] : List (ByteArray × Value × Nat)) 2) by rw [hW]; exact World.putObj_heap_same (lt_of_at HM1.out))
  have HB2 := Aside0.mk (show Below w.heap.size w W2 by rw [hW]; exact below_put HB1.out (Nat.le_of_eq HBW.out.symm) _)
  clear hu hW HM1 HB1
  go_wp2_with fail
  have hu := update_run (P := Try.prog) (T := 102) (venc := fun v : Value => v) str_law Try.underlying102 HM2.out ⟨#[42]⟩ (.agg #[.func (.func 87) #[] #[], .bool false])
  rw [show upd skeq ⟨#[42]⟩ (.agg #[.func (.func 87) #[] #[], .bool false]) 2 ([(⟨#[43]⟩, .agg #[.func (.func 85) #[] #[], .bool false], 0), (⟨#[45]⟩, .agg #[.func (.func 86) #[] #[], .bool false], 1)] : List (ByteArray × Value × Nat)) = (([(⟨#[43]⟩, .agg #[.func (.func 85) #[] #[], .bool false], 0), (⟨#[45]⟩, .agg #[.func (.func 86) #[] #[], .bool false], 1), (⟨#[42]⟩, .agg #[.func (.func 87) #[] #[], .bool false], 2)] : List (ByteArray × Value × Nat)), 3) by simp [upd, findIdx, skeq, lit]] at hu
  obtain ⟨W3, hW⟩ : ∃ x : World, x = W2.putObj B (MapObj Value.string (fun v => v) ([(⟨#[43]⟩, .agg #[.func (.func 85) #[] #[], .bool false], 0), (⟨#[45]⟩, .agg #[.func (.func 86) #[] #[], .bool false], 1), (⟨#[42]⟩, .agg #[.func (.func 87) #[] #[], .bool false], 2)] : List (ByteArray × Value × Nat)) 3) := ⟨_, rfl⟩
  simp only at hu
  rw [← hW] at hu
  rw [hu]
  have HM3 := Aside0.mk (show W3.heap[B]? = some (MapObj Value.string (fun v => v) ([(⟨#[43]⟩, .agg #[.func (.func 85) #[] #[], .bool false], 0), (⟨#[45]⟩, .agg #[.func (.func 86) #[] #[], .bool false], 1), (⟨#[42]⟩, .agg #[.func (.func 87) #[] #[], .bool false], 2)] : List (ByteArray × Value × Nat)) 3) by rw [hW]; exact World.putObj_heap_same (lt_of_at HM2.out))
  have HB3 := Aside0.mk (show Below w.heap.size w W3 by rw [hW]; exact below_put HB2.out (Nat.le_of_eq HBW.out.symm) _)
  clear hu hW HM2 HB2
  go_wp2_with fail
  have hu := update_run (P := Try.prog) (T := 102) (venc := fun v : Value => v) str_law Try.underlying102 HM3.out ⟨#[47]⟩ (.agg #[.func (.func 88) #[] #[], .bool true])
  rw [show upd skeq ⟨#[47]⟩ (.agg #[.func (.func 88) #[] #[], .bool true]) 3 ([(⟨#[43]⟩, .agg #[.func (.func 85) #[] #[], .bool false], 0), (⟨#[45]⟩, .agg #[.func (.func 86) #[] #[], .bool false], 1), (⟨#[42]⟩, .agg #[.func (.func 87) #[] #[], .bool false], 2)] : List (ByteArray × Value × Nat)) = (([(⟨#[43]⟩, .agg #[.func (.func 85) #[] #[], .bool false], 0), (⟨#[45]⟩, .agg #[.func (.func 86) #[] #[], .bool false], 1), (⟨#[42]⟩, .agg #[.func (.func 87) #[] #[], .bool false], 2), (⟨#[47]⟩, .agg #[.func (.func 88) #[] #[], .bool true], 3)] : List (ByteArray × Value × Nat)), 4) by simp [upd, findIdx, skeq, lit]] at hu
  obtain ⟨W4, hW⟩ : ∃ x : World, x = W3.putObj B (MapObj Value.string (fun v => v) ([(⟨#[43]⟩, .agg #[.func (.func 85) #[] #[], .bool false], 0), (⟨#[45]⟩, .agg #[.func (.func 86) #[] #[], .bool false], 1), (⟨#[42]⟩, .agg #[.func (.func 87) #[] #[], .bool false], 2), (⟨#[47]⟩, .agg #[.func (.func 88) #[] #[], .bool true], 3)] : List (ByteArray × Value × Nat)) 4) := ⟨_, rfl⟩
  simp only at hu
  rw [← hW] at hu
  rw [hu]
  have HM4 := Aside0.mk (show W4.heap[B]? = some (MapObj Value.string (fun v => v) ([(⟨#[43]⟩, .agg #[.func (.func 85) #[] #[], .bool false], 0), (⟨#[45]⟩, .agg #[.func (.func 86) #[] #[], .bool false], 1), (⟨#[42]⟩, .agg #[.func (.func 87) #[] #[], .bool false], 2), (⟨#[47]⟩, .agg #[.func (.func 88) #[] #[], .bool true], 3)] : List (ByteArray × Value × Nat)) 4) by rw [hW]; exact World.putObj_heap_same (lt_of_at HM3.out))
  have HB4 := Aside0.mk (show Below w.heap.size w W4 by rw [hW]; exact below_put HB3.out (Nat.le_of_eq HBW.out.symm) _)
  clear hu hW HM3 HB3
  go_wp2_with fail
  have hu := update_run (P := Try.prog) (T := 102) (venc := fun v : Value => v) str_law Try.underlying102 HM4.out ⟨#[37]⟩ (.agg #[.func (.func 89) #[] #[], .bool true])
  rw [show upd skeq ⟨#[37]⟩ (.agg #[.func (.func 89) #[] #[], .bool true]) 4 ([(⟨#[43]⟩, .agg #[.func (.func 85) #[] #[], .bool false], 0), (⟨#[45]⟩, .agg #[.func (.func 86) #[] #[], .bool false], 1), (⟨#[42]⟩, .agg #[.func (.func 87) #[] #[], .bool false], 2), (⟨#[47]⟩, .agg #[.func (.func 88) #[] #[], .bool true], 3)] : List (ByteArray × Value × Nat)) = (([(⟨#[43]⟩, .agg #[.func (.func 85) #[] #[], .bool false], 0), (⟨#[45]⟩, .agg #[.func (.func 86) #[] #[], .bool false], 1), (⟨#[42]⟩, .agg #[.func (.func 87) #[] #[], .bool false], 2), (⟨#[47]⟩, .agg #[.func (.func 88) #[] #[], .bool true], 3), (⟨#[37]⟩, .agg #[.func (.func 89) #[] #[], .bool true], 4)] : List (ByteArray × Value × Nat)), 5) by simp [upd, findIdx, skeq, lit]] at hu
  obtain ⟨W5, hW⟩ : ∃ x : World, x = W4.putObj B (MapObj Value.string (fun v => v) ([(⟨#[43]⟩, .agg #[.func (.func 85) #[] #[], .bool false], 0), (⟨#[45]⟩, .agg #[.func (.func 86) #[] #[], .bool false], 1), (⟨#[42]⟩, .agg #[.func (.func 87) #[] #[], .bool false], 2), (⟨#[47]⟩, .agg #[.func (.func 88) #[] #[], .bool true], 3), (⟨#[37]⟩, .agg #[.func (.func 89) #[] #[], .bool true], 4)] : List (ByteArray × Value × Nat)) 5) := ⟨_, rfl⟩
  simp only at hu
  rw [← hW] at hu
  rw [hu]
  have HM5 := Aside0.mk (show W5.heap[B]? = some (MapObj Value.string (fun v => v) ([(⟨#[43]⟩, .agg #[.func (.func 85) #[] #[], .bool false], 0), (⟨#[45]⟩, .agg #[.func (.func 86) #[] #[], .bool false], 1), (⟨#[42]⟩, .agg #[.func (.func 87) #[] #[], .bool false], 2), (⟨#[47]⟩, .agg #[.func (.func 88) #[] #[], .bool true], 3), (⟨#[37]⟩, .agg #[.func (.func 89) #[] #[], .bool true], 4)] : List (ByteArray × Value × Nat)) 5) by rw [hW]; exact World.putObj_heap_same (lt_of_at HM4.out))
  have HB5 := Aside0.mk (show Below w.heap.size w W5 by rw [hW]; exact below_put HB4.out (Nat.le_of_eq HBW.out.symm) _)
  clear hu hW HM4 HB4
  go_wp2_with fail
  go_ret
  refine ⟨B, rfl, HB5.out, ⟨⟨_, 5, HM5.out, fun s => ?_⟩⟩⟩
  by_cases h0 : s.toList = [43]
  · have e : way s = some (85, false) := by unfold way; rw [if_pos h0]
    rw [e]
    obtain rfl : s = ⟨#[43]⟩ := toList_inj (h0.trans (lit _).symm)
    exact ⟨0, by simp [findIdx, skeq, lit]⟩
  by_cases h1 : s.toList = [45]
  · have e : way s = some (86, false) := by unfold way; rw [if_neg h0, if_pos h1]
    rw [e]
    obtain rfl : s = ⟨#[45]⟩ := toList_inj (h1.trans (lit _).symm)
    exact ⟨1, by simp [findIdx, skeq, lit]⟩
  by_cases h2 : s.toList = [42]
  · have e : way s = some (87, false) := by unfold way; rw [if_neg h0, if_neg h1, if_pos h2]
    rw [e]
    obtain rfl : s = ⟨#[42]⟩ := toList_inj (h2.trans (lit _).symm)
    exact ⟨2, by simp [findIdx, skeq, lit]⟩
  by_cases h3 : s.toList = [47]
  · have e : way s = some (88, true) := by unfold way; rw [if_neg h0, if_neg h1, if_neg h2, if_pos h3]
    rw [e]
    obtain rfl : s = ⟨#[47]⟩ := toList_inj (h3.trans (lit _).symm)
    exact ⟨3, by simp [findIdx, skeq, lit]⟩
  by_cases h4 : s.toList = [37]
  · have e : way s = some (89, true) := by unfold way; rw [if_neg h0, if_neg h1, if_neg h2, if_neg h3, if_pos h4]
    rw [e]
    obtain rfl : s = ⟨#[37]⟩ := toList_inj (h4.trans (lit _).symm)
    exact ⟨4, by simp [findIdx, skeq, lit]⟩
  have e : way s = none := by unfold way; rw [if_neg h0, if_neg h1, if_neg h2, if_neg h3, if_neg h4]
  rw [e]
  simp [findIdx, skeq, lit, h0, h1, h2, h3, h4]
theorem zeroW (w : World) : (zeroValue 100).run Try.prog w = .ok (.agg #[.nilFunc, .bool false]) w := by kernel_rfl
theorem plus_calls (a b : Int) (w : World) : Calls Try.prog 85 #[.int .i64 a, .int .i64 b] w fun e w' => e = .returned (.int .i64 (wrap64 (a + b))) ∧ w' = w := by
  go_enter Try.func85, Try.ntmps85
  go_wp2
  go_ret
  exact ⟨rfl, rfl⟩
set_option maxHeartbeats 4000000 in
set_option maxRecDepth 100000 in
theorem Do_plus (a b : Int) (w : World) : Calls Try.prog 69 #[.string ⟨#[43]⟩, .int .i64 a, .int .i64 b] w fun e w' => e = .returned (.tuple #[.int .i64 (wrap64 (a + b)), .int .i64 0]) ∧ Below w.heap.size w w' := by
  have hu := Try.underlying100
  go_enter Try.func69, Try.ntmps69
  go_wp2_with fail
  refine (ways_calls _).mono ?_
  rintro e w1 ⟨B, rfl, hb1, hH⟩
  have HB1 := Aside0.mk hb1
  obtain ⟨Lm, cm, hmB, hmF⟩ := hH.out
  have hlk0 := lookup_ok (P := Try.prog) (T := 102) (venc := fun v : Value => v) str_law Try.underlying102 zeroW hmB ⟨#[43]⟩
  have hF := hmF ⟨#[43]⟩
  rw [show way ⟨#[43]⟩ = some (85, false) by unfold way; rw [if_pos (lit _)]] at hF
  simp only at hF
  obtain ⟨ix, hfi⟩ := hF
  rw [hfi] at hlk0
  simp only at hlk0
  clear hb1 hH hmB hmF hfi
  go_wp2_with (go_at_call 85; refine (plus_calls _ _ _).mono ?_; rintro e w' ⟨rfl, rfl⟩)
  go_ret2
  exact ⟨rfl, HB1.out.alloc HB1.out.size _⟩
end Go.Proofs.YtnefifgfpljlkaaInts
