-- WRITTEN BY hand.py of this session, over the kit's print: a text of this seat
import Derived.Test.YtnefifgfpljlkaaPAllx0
import Derived.Test.YtnefifgfpljlkaaPAllx7
import Derived.Test.YtnefifgfpljlkaaPAllx8
namespace Go.Proofs.Ytnefifgfpljlkaa.PAll
open Go.RowKit Go.Proofs.YtnefifgfpljlkaaW.PrintWords Go.Proofs.YtnefifgfpljlkaaW.PrintLast Go.Proofs.YtnefifgfpljlkaaW.PrintMore
attribute [local go_sem] max2_int min2_int max_two min_two max_three min_three max_four min_four   -- for this text's walks alone
set_option linter.unusedVariables false
set_option linter.unusedSimpArgs false

/-! ### opers_Do: function 27 -/
def opers_Do.tv (b : Bool) : Int × Int × Int × ByteArray × (List (S45)) × Int × Int := (3, if b = true then 1 else 0, 0, ⟨#[]⟩, [], 0, 0)
def opers_Do.f (k : Nat) (a0 : ByteArray) (a1_0 : Int) (a1_1 : Int) (a1_2 : Int) (a1_3 : ByteArray) (l1_4 : List (S45)) (a2_0 : Int) (a2_1 : Int) (a2_2 : Int) (a2_3 : ByteArray) (l2_4 : List (S45)) : Option (Int × Int × Int × ByteArray × (List (S45)) × Int × Int) :=
  if a0.toList = ([61, 61] : List UInt8) then (opers_Same.f k a1_0 a1_1 a1_2 a1_3 l1_4 a2_0 a2_1 a2_2 a2_3 l2_4).bind fun s => some (opers_Do.tv s)
  else if a0.toList = ([33, 61] : List UInt8) then (opers_Same.f k a1_0 a1_1 a1_2 a1_3 l1_4 a2_0 a2_1 a2_2 a2_3 l2_4).bind fun s => some (opers_Do.tv (!s))
  else if a0.toList = ([43] : List UInt8) then
    (if a1_0 = 1 ∧ a2_0 = 1 then some (1, wrap64 (a1_1 + a2_1), 0, ⟨#[]⟩, [], 0, 0)
     else if a1_0 = 4 ∧ a2_0 = 4 ∧ a1_3.size + a2_3.size ≤ 1000 then some (4, 0, 0, a1_3 ++ a2_3, [], 0, 0) else none)
  else none
theorem opers_Do.mono : ∀ a0 a1_0 a1_1 a1_2 a1_3 l1_4 a2_0 a2_1 a2_2 a2_3 l2_4 k, LeO (opers_Do.f k a0 a1_0 a1_1 a1_2 a1_3 l1_4 a2_0 a2_1 a2_2 a2_3 l2_4) (opers_Do.f (k + 1) a0 a1_0 a1_1 a1_2 a1_3 l1_4 a2_0 a2_1 a2_2 a2_3 l2_4) := by
  intro a0 a1_0 a1_1 a1_2 a1_3 l1_4 a2_0 a2_1 a2_2 a2_3 l2_4 k r h
  unfold opers_Do.f at h ⊢
  split
  · rename_i c
    rw [if_pos c] at h
    obtain ⟨s, hs, h⟩ := Option.bind_eq_some_iff.1 h
    rw [opers_Same.mono _ _ _ _ _ _ _ _ _ _ k s hs]
    exact h
  · rename_i c
    rw [if_neg c] at h
    split
    · rename_i c2
      rw [if_pos c2] at h
      obtain ⟨s, hs, h⟩ := Option.bind_eq_some_iff.1 h
      rw [opers_Same.mono _ _ _ _ _ _ _ _ _ _ k s hs]
      exact h
    · rename_i c2
      rw [if_neg c2] at h
      exact h
open Go.Proofs.YtnefifgfpljlkaaRF in
theorem opers_Do.res (tmps : Array Value) (w : World) (g g2 : Nat) (x0 x1 x2 x3 x4 : Value) (x : Int) (hp : tmps.getD 6 undef = .pointer (some ⟨g, 0, none⟩)) (hq : tmps.getD 7 undef = .pointer (some ⟨g2, 0, none⟩))
    (hg : w.heap[g]? = some (.cells #[x0, x1, x2, x3, x4] 25 (0, 0))) (hg2 : w.heap[g2]? = some (.cells #[.int .i64 x] 3 (0, 0))) :
    (results Try.f27 tmps).run Try.prog w = .ok (.tuple #[.agg #[x0, x1, x2, x3, x4], .int .i64 x, tmps.getD 8 undef]) w := by
  have hp' : tmps[6]?.getD undef = .pointer (some ⟨g, 0, none⟩) := by simpa using hp
  have hq' : tmps[7]?.getD undef = .pointer (some ⟨g2, 0, none⟩) := by simpa using hq
  have hc := cell_at hg2 0
  have c0 := cell_at hg 0
  have c1 := cell_at hg 1
  have c2 := cell_at hg 2
  have c3 := cell_at hg 3
  have c4 := cell_at hg 4
  simp only [List.getElem?_toArray, List.getElem?_cons_zero, List.getElem?_cons_succ] at hc c0 c1 c2 c3 c4
  simp [results, Try.results27, hp', hq', asAddr, go_sem, hc, c0, c1, c2, c3, c4]
open Go.Proofs.YtnefifgfpljlkaaRF in
theorem opers_Do.rest {α : Type} {d : Kd α} {e : Nat} {w w2 w3 : World} {n : Nat} {v : Value} {xs : List α} (h : d.R e w2 n (fun _ => True) v xs) (hn : w.heap.size ≤ n) (hw : ∀ k, n ≤ k → w3.heap[k]? = w2.heap[k]?) : d.R e w3 w.heap.size (fun _ => True) v xs :=
  Kd.R_lower (Kd.R_mono (Kd.R_step (Kd.R_bound h) (fun k ho _ => hw k ho.2.1)) (fun _ _ => trivial)) hn
open Go.Proofs.YtnefifgfpljlkaaRF Go.Proofs.YtnefifgfpljlkaaRG Go.Proofs.YtnefifgfpljlkaaMp in
set_option maxHeartbeats 8000000 in
set_option maxRecDepth 100000 in
theorem opers_Do.calls (k : Nat) (a0 : ByteArray) (a1_0 : Int) (a1_1 : Int) (a1_2 : Int) (a1_3 : ByteArray) (A1_4 : Option Addr) (c1_4 : Nat) (l1_4 : List (S45)) (a2_0 : Int) (a2_1 : Int) (a2_2 : Int) (a2_3 : ByteArray) (A2_4 : Option Addr) (c2_4 : Nat) (l2_4 : List (S45)) (r1 : Int) (r2 : Int) (r3 : Int) (r4 : ByteArray) (r5 : List (S45)) (r6 : Int) (r7 : Int) (w : World) (hr1_4 : Kd.C k45 w A1_4 l1_4.length l1_4) (hc1_4 : l1_4.length ≤ c1_4) (hr2_4 : Kd.C k45 w A2_4 l2_4.length l2_4) (hc2_4 : l2_4.length ≤ c2_4) (h : opers_Do.f k a0 a1_0 a1_1 a1_2 a1_3 l1_4 a2_0 a2_1 a2_2 a2_3 l2_4 = some (r1, r2, r3, r4, r5, r6, r7)) :
    Calls Try.prog 27 #[.string a0, .agg #[.int .i64 a1_0, .int .i64 a1_1, .int .u64 a1_2, .string a1_3, .slice A1_4 l1_4.length c1_4], .agg #[.int .i64 a2_0, .int .i64 a2_1, .int .u64 a2_2, .string a2_3, .slice A2_4 l2_4.length c2_4]] w fun e w' => ∃ v4_ : Value, e = .returned (.tuple #[.agg #[.int .i64 r1, .int .i64 r2, .int .u64 r3, .string r4, v4_], .int .i64 r6, .int .i64 r7]) ∧ Kd.R k45 45 w' w.heap.size (fun _ => True) v4_ r5 ∧ Below w.heap.size w w' := by
  unfold opers_Do.f at h
  have H := Aside0.mk h
  have HR1 := Aside0.mk hr1_4
  have HR2 := Aside0.mk hr2_4
  have hv := Try.underlying25
  have ho := Try.underlying56
  clear h hr1_4 hr2_4
  obtain ⟨W4, hW4⟩ : ∃ W4 : World, W4 = (((w.alloc (.cells #[.int .i64 a1_0, .int .i64 a1_1, .int .u64 a1_2, .string a1_3, .slice A1_4 l1_4.length c1_4] 25 (0, 0))).alloc (.cells #[.int .i64 a2_0, .int .i64 a2_1, .int .u64 a2_2, .string a2_3, .slice A2_4 l2_4.length c2_4] 25 (0, 0))).alloc (.cells #[.int .i64 0, .int .i64 0, .int .u64 0, .string ⟨#[]⟩, .slice none 0 0] 25 (0, 0))).alloc (.cells #[.int .i64 0] 3 (0, 0)) := ⟨_, rfl⟩
  have HB4 := Aside0.mk (show Below w.heap.size w W4 by rw [hW4]; exact ((((Below.refl w.heap.size w).alloc (Nat.le_refl _) _).alloc (by simp) _).alloc (by simp; omega) _).alloc (by simp; omega) _)
  have HX1 := Aside0.mk (show W4.heap[w.heap.size]? = some (.cells #[.int .i64 a1_0, .int .i64 a1_1, .int .u64 a1_2, .string a1_3, .slice A1_4 l1_4.length c1_4] 25 (0, 0)) by rw [hW4]; exact at_alloc (at_alloc (at_alloc (at_new w _ rfl) _) _) _)
  have HX2 := Aside0.mk (show W4.heap[w.heap.size + 1]? = some (.cells #[.int .i64 a2_0, .int .i64 a2_1, .int .u64 a2_2, .string a2_3, .slice A2_4 l2_4.length c2_4] 25 (0, 0)) by rw [hW4]; exact at_alloc (at_alloc (at_new _ _ (by simp)) _) _)
  have HZ := Aside0.mk (show W4.heap[w.heap.size + 1 + 1]? = some (.cells #[.int .i64 0, .int .i64 0, .int .u64 0, .string ⟨#[]⟩, .slice none 0 0] 25 (0, 0)) by rw [hW4]; exact at_alloc (at_new _ _ (by simp)) _)
  have HT := Aside0.mk (show W4.heap[w.heap.size + 1 + 1 + 1]? = some (.cells #[.int .i64 0] 3 (0, 0)) by rw [hW4]; exact at_new _ _ (by simp))
  have HW4 := Aside0.mk hW4
  have HRW1 := Aside0.mk (Kd.C_below HR1.out HB4.out)
  have HRW2 := Aside0.mk (Kd.C_below HR2.out HB4.out)
  clear hW4 HR1 HR2
  by_cases h1 : a0.toList = [61, 61]
  · have h1b : (a0.toList == ([61, 61] : List UInt8)) = true := by simpa using h1
    have h := H.out
    rw [if_pos h1] at h
    obtain ⟨s, hs, h⟩ := Option.bind_eq_some_iff.1 h
    simp only [opers_Do.tv, Option.some.injEq, Prod.mk.injEq] at h
    obtain ⟨rfl, rfl, rfl, rfl, rfl, rfl, rfl⟩ := h
    have HS := Aside0.mk hs
    clear hs h1 h H
    cases s with
    | true =>
      go_enter_defers Try.func27, Try.ntmps27
      go_wp2_with fail
      rw [← HW4.out]
      refine (opers_Same.calls k a1_0 a1_1 a1_2 a1_3 A1_4 c1_4 l1_4 a2_0 a2_1 a2_2 a2_3 A2_4 c2_4 l2_4 _ _ HRW1.out hc1_4 HRW2.out hc2_4 HS.out).mono ?_
      rintro e w1 ⟨rfl, hb1⟩
      have HB1 := Aside0.mk (HB4.out.trans (hb1.mono HB4.out.size))
      have HZ1 := Aside0.mk ((hb1.block _ (lt_of_at HZ.out)).trans HZ.out)
      have HT1 := Aside0.mk ((hb1.block _ (lt_of_at HT.out)).trans HT.out)
      clear hb1
      go_wp2_with fail
      refine (opers_truth.calls true 3 1 0 ⟨#[]⟩ [] _ rfl).mono ?_
      rintro e w2 ⟨v4, rfl, hR2, hb2⟩
      obtain ⟨A4, c4, rfl⟩ := Kd.R_slice hR2
      have HR2 := Aside0.mk hR2
      have HB2 := Aside0.mk (HB1.out.trans (hb2.mono HB1.out.size))
      have HB1S := Aside0.mk (show w.heap.size + 4 ≤ w1.heap.size by have := lt_of_at HT1.out; omega)
      have HZ2 := Aside0.mk ((hb2.block _ (lt_of_at HZ1.out)).trans HZ1.out)
      have HT2 := Aside0.mk ((hb2.block _ (lt_of_at HT1.out)).trans HT1.out)
      clear hb2 hR2 HB1 HZ1 HT1
      have g0 := cell_at HZ2.out 0
      have f0 := free_at HZ2.out 0
      have g1 := cell_at HZ2.out 1
      have f1 := free_at HZ2.out 1
      have g2 := cell_at HZ2.out 2
      have f2 := free_at HZ2.out 2
      have g3 := cell_at HZ2.out 3
      have f3 := free_at HZ2.out 3
      have g4 := cell_at HZ2.out 4
      have f4 := free_at HZ2.out 4
      have g5 := cell_at HT2.out 0
      have f5 := free_at HT2.out 0
      simp only [List.getElem?_toArray, List.getElem?_cons_zero, List.getElem?_cons_succ] at g0 g1 g2 g3 g4 g5
      go_wp2_with fail
      refine ⟨_, opers_Do.res _ _ (w.heap.size + 1 + 1) (w.heap.size + 1 + 1 + 1) (.int .i64 3) (.int .i64 1) (.int .u64 0) (.string ⟨#[]⟩) (.slice A4 0 c4) 0 rfl rfl ?_ ?_, _, rfl, ?_, ?_⟩
      · exact blk_far (blk_put (blk_put (blk_put (blk_put (blk_put HZ2.out 0 _ rfl) 1 _ rfl) 2 _ rfl) 3 _ rfl) 4 _ rfl) (by simp) _
      · exact blk_put (blk_far (blk_far (blk_far (blk_far (blk_far HT2.out (by simp) _) (by simp) _) (by simp) _) (by simp) _) (by simp) _) 0 _ rfl
      · exact opers_Do.rest HR2.out (by have := HB1S.out; omega) (fun k hk => by have := HB1S.out; rw [Below.heap_setCell _ _ _ k (by simp; omega), Below.heap_setCell _ _ _ k (by simp; omega), Below.heap_setCell _ _ _ k (by simp; omega), Below.heap_setCell _ _ _ k (by simp; omega), Below.heap_setCell _ _ _ k (by simp; omega), Below.heap_setCell _ _ _ k (by simp; omega)])
      · exact below_set (below_set (below_set (below_set (below_set (below_set HB2.out (by omega)) (by omega)) (by omega)) (by omega)) (by omega)) (by omega)
    | false =>
      go_enter_defers Try.func27, Try.ntmps27
      go_wp2_with fail
      rw [← HW4.out]
      refine (opers_Same.calls k a1_0 a1_1 a1_2 a1_3 A1_4 c1_4 l1_4 a2_0 a2_1 a2_2 a2_3 A2_4 c2_4 l2_4 _ _ HRW1.out hc1_4 HRW2.out hc2_4 HS.out).mono ?_
      rintro e w1 ⟨rfl, hb1⟩
      have HB1 := Aside0.mk (HB4.out.trans (hb1.mono HB4.out.size))
      have HZ1 := Aside0.mk ((hb1.block _ (lt_of_at HZ.out)).trans HZ.out)
      have HT1 := Aside0.mk ((hb1.block _ (lt_of_at HT.out)).trans HT.out)
      clear hb1
      go_wp2_with fail
      refine (opers_truth.calls false 3 0 0 ⟨#[]⟩ [] _ rfl).mono ?_
      rintro e w2 ⟨v4, rfl, hR2, hb2⟩
      obtain ⟨A4, c4, rfl⟩ := Kd.R_slice hR2
      have HR2 := Aside0.mk hR2
      have HB2 := Aside0.mk (HB1.out.trans (hb2.mono HB1.out.size))
      have HB1S := Aside0.mk (show w.heap.size + 4 ≤ w1.heap.size by have := lt_of_at HT1.out; omega)
      have HZ2 := Aside0.mk ((hb2.block _ (lt_of_at HZ1.out)).trans HZ1.out)
      have HT2 := Aside0.mk ((hb2.block _ (lt_of_at HT1.out)).trans HT1.out)
      clear hb2 hR2 HB1 HZ1 HT1
      have g0 := cell_at HZ2.out 0
      have f0 := free_at HZ2.out 0
      have g1 := cell_at HZ2.out 1
      have f1 := free_at HZ2.out 1
      have g2 := cell_at HZ2.out 2
      have f2 := free_at HZ2.out 2
      have g3 := cell_at HZ2.out 3
      have f3 := free_at HZ2.out 3
      have g4 := cell_at HZ2.out 4
      have f4 := free_at HZ2.out 4
      have g5 := cell_at HT2.out 0
      have f5 := free_at HT2.out 0
      simp only [List.getElem?_toArray, List.getElem?_cons_zero, List.getElem?_cons_succ] at g0 g1 g2 g3 g4 g5
      go_wp2_with fail
      refine ⟨_, opers_Do.res _ _ (w.heap.size + 1 + 1) (w.heap.size + 1 + 1 + 1) (.int .i64 3) (.int .i64 0) (.int .u64 0) (.string ⟨#[]⟩) (.slice A4 0 c4) 0 rfl rfl ?_ ?_, _, rfl, ?_, ?_⟩
      · exact blk_far (blk_put (blk_put (blk_put (blk_put (blk_put HZ2.out 0 _ rfl) 1 _ rfl) 2 _ rfl) 3 _ rfl) 4 _ rfl) (by simp) _
      · exact blk_put (blk_far (blk_far (blk_far (blk_far (blk_far HT2.out (by simp) _) (by simp) _) (by simp) _) (by simp) _) (by simp) _) 0 _ rfl
      · exact opers_Do.rest HR2.out (by have := HB1S.out; omega) (fun k hk => by have := HB1S.out; rw [Below.heap_setCell _ _ _ k (by simp; omega), Below.heap_setCell _ _ _ k (by simp; omega), Below.heap_setCell _ _ _ k (by simp; omega), Below.heap_setCell _ _ _ k (by simp; omega), Below.heap_setCell _ _ _ k (by simp; omega), Below.heap_setCell _ _ _ k (by simp; omega)])
      · exact below_set (below_set (below_set (below_set (below_set (below_set HB2.out (by omega)) (by omega)) (by omega)) (by omega)) (by omega)) (by omega)
  have h1b : (a0.toList == ([61, 61] : List UInt8)) = false := by simpa using h1
  have h := H.out
  rw [if_neg h1] at h
  by_cases h2 : a0.toList = [33, 61]
  · have h2b : (a0.toList == ([33, 61] : List UInt8)) = true := by simpa using h2
    rw [if_pos h2] at h
    obtain ⟨s, hs, h⟩ := Option.bind_eq_some_iff.1 h
    simp only [opers_Do.tv, Option.some.injEq, Prod.mk.injEq] at h
    obtain ⟨rfl, rfl, rfl, rfl, rfl, rfl, rfl⟩ := h
    have HS := Aside0.mk hs
    clear hs h1 h2 h H
    cases s with
    | true =>
      go_enter_defers Try.func27, Try.ntmps27
      go_wp2_with fail
      rw [← HW4.out]
      refine (opers_Same.calls k a1_0 a1_1 a1_2 a1_3 A1_4 c1_4 l1_4 a2_0 a2_1 a2_2 a2_3 A2_4 c2_4 l2_4 _ _ HRW1.out hc1_4 HRW2.out hc2_4 HS.out).mono ?_
      rintro e w1 ⟨rfl, hb1⟩
      have HB1 := Aside0.mk (HB4.out.trans (hb1.mono HB4.out.size))
      have HZ1 := Aside0.mk ((hb1.block _ (lt_of_at HZ.out)).trans HZ.out)
      have HT1 := Aside0.mk ((hb1.block _ (lt_of_at HT.out)).trans HT.out)
      clear hb1
      go_wp2_with fail
      refine (opers_truth.calls false 3 0 0 ⟨#[]⟩ [] _ rfl).mono ?_
      rintro e w2 ⟨v4, rfl, hR2, hb2⟩
      obtain ⟨A4, c4, rfl⟩ := Kd.R_slice hR2
      have HR2 := Aside0.mk hR2
      have HB2 := Aside0.mk (HB1.out.trans (hb2.mono HB1.out.size))
      have HB1S := Aside0.mk (show w.heap.size + 4 ≤ w1.heap.size by have := lt_of_at HT1.out; omega)
      have HZ2 := Aside0.mk ((hb2.block _ (lt_of_at HZ1.out)).trans HZ1.out)
      have HT2 := Aside0.mk ((hb2.block _ (lt_of_at HT1.out)).trans HT1.out)
      clear hb2 hR2 HB1 HZ1 HT1
      have g0 := cell_at HZ2.out 0
      have f0 := free_at HZ2.out 0
      have g1 := cell_at HZ2.out 1
      have f1 := free_at HZ2.out 1
      have g2 := cell_at HZ2.out 2
      have f2 := free_at HZ2.out 2
      have g3 := cell_at HZ2.out 3
      have f3 := free_at HZ2.out 3
      have g4 := cell_at HZ2.out 4
      have f4 := free_at HZ2.out 4
      have g5 := cell_at HT2.out 0
      have f5 := free_at HT2.out 0
      simp only [List.getElem?_toArray, List.getElem?_cons_zero, List.getElem?_cons_succ] at g0 g1 g2 g3 g4 g5
      go_wp2_with fail
      refine ⟨_, opers_Do.res _ _ (w.heap.size + 1 + 1) (w.heap.size + 1 + 1 + 1) (.int .i64 3) (.int .i64 0) (.int .u64 0) (.string ⟨#[]⟩) (.slice A4 0 c4) 0 rfl rfl ?_ ?_, _, rfl, ?_, ?_⟩
      · exact blk_far (blk_put (blk_put (blk_put (blk_put (blk_put HZ2.out 0 _ rfl) 1 _ rfl) 2 _ rfl) 3 _ rfl) 4 _ rfl) (by simp) _
      · exact blk_put (blk_far (blk_far (blk_far (blk_far (blk_far HT2.out (by simp) _) (by simp) _) (by simp) _) (by simp) _) (by simp) _) 0 _ rfl
      · exact opers_Do.rest HR2.out (by have := HB1S.out; omega) (fun k hk => by have := HB1S.out; rw [Below.heap_setCell _ _ _ k (by simp; omega), Below.heap_setCell _ _ _ k (by simp; omega), Below.heap_setCell _ _ _ k (by simp; omega), Below.heap_setCell _ _ _ k (by simp; omega), Below.heap_setCell _ _ _ k (by simp; omega), Below.heap_setCell _ _ _ k (by simp; omega)])
      · exact below_set (below_set (below_set (below_set (below_set (below_set HB2.out (by omega)) (by omega)) (by omega)) (by omega)) (by omega)) (by omega)
    | false =>
      go_enter_defers Try.func27, Try.ntmps27
      go_wp2_with fail
      rw [← HW4.out]
      refine (opers_Same.calls k a1_0 a1_1 a1_2 a1_3 A1_4 c1_4 l1_4 a2_0 a2_1 a2_2 a2_3 A2_4 c2_4 l2_4 _ _ HRW1.out hc1_4 HRW2.out hc2_4 HS.out).mono ?_
      rintro e w1 ⟨rfl, hb1⟩
      have HB1 := Aside0.mk (HB4.out.trans (hb1.mono HB4.out.size))
      have HZ1 := Aside0.mk ((hb1.block _ (lt_of_at HZ.out)).trans HZ.out)
      have HT1 := Aside0.mk ((hb1.block _ (lt_of_at HT.out)).trans HT.out)
      clear hb1
      go_wp2_with fail
      refine (opers_truth.calls true 3 1 0 ⟨#[]⟩ [] _ rfl).mono ?_
      rintro e w2 ⟨v4, rfl, hR2, hb2⟩
      obtain ⟨A4, c4, rfl⟩ := Kd.R_slice hR2
      have HR2 := Aside0.mk hR2
      have HB2 := Aside0.mk (HB1.out.trans (hb2.mono HB1.out.size))
      have HB1S := Aside0.mk (show w.heap.size + 4 ≤ w1.heap.size by have := lt_of_at HT1.out; omega)
      have HZ2 := Aside0.mk ((hb2.block _ (lt_of_at HZ1.out)).trans HZ1.out)
      have HT2 := Aside0.mk ((hb2.block _ (lt_of_at HT1.out)).trans HT1.out)
      clear hb2 hR2 HB1 HZ1 HT1
      have g0 := cell_at HZ2.out 0
      have f0 := free_at HZ2.out 0
      have g1 := cell_at HZ2.out 1
      have f1 := free_at HZ2.out 1
      have g2 := cell_at HZ2.out 2
      have f2 := free_at HZ2.out 2
      have g3 := cell_at HZ2.out 3
      have f3 := free_at HZ2.out 3
      have g4 := cell_at HZ2.out 4
      have f4 := free_at HZ2.out 4
      have g5 := cell_at HT2.out 0
      have f5 := free_at HT2.out 0
      simp only [List.getElem?_toArray, List.getElem?_cons_zero, List.getElem?_cons_succ] at g0 g1 g2 g3 g4 g5
      go_wp2_with fail
      refine ⟨_, opers_Do.res _ _ (w.heap.size + 1 + 1) (w.heap.size + 1 + 1 + 1) (.int .i64 3) (.int .i64 1) (.int .u64 0) (.string ⟨#[]⟩) (.slice A4 0 c4) 0 rfl rfl ?_ ?_, _, rfl, ?_, ?_⟩
      · exact blk_far (blk_put (blk_put (blk_put (blk_put (blk_put HZ2.out 0 _ rfl) 1 _ rfl) 2 _ rfl) 3 _ rfl) 4 _ rfl) (by simp) _
      · exact blk_put (blk_far (blk_far (blk_far (blk_far (blk_far HT2.out (by simp) _) (by simp) _) (by simp) _) (by simp) _) (by simp) _) 0 _ rfl
      · exact opers_Do.rest HR2.out (by have := HB1S.out; omega) (fun k hk => by have := HB1S.out; rw [Below.heap_setCell _ _ _ k (by simp; omega), Below.heap_setCell _ _ _ k (by simp; omega), Below.heap_setCell _ _ _ k (by simp; omega), Below.heap_setCell _ _ _ k (by simp; omega), Below.heap_setCell _ _ _ k (by simp; omega), Below.heap_setCell _ _ _ k (by simp; omega)])
      · exact below_set (below_set (below_set (below_set (below_set (below_set HB2.out (by omega)) (by omega)) (by omega)) (by omega)) (by omega)) (by omega)
  have h2b : (a0.toList == ([33, 61] : List UInt8)) = false := by simpa using h2
  rw [if_neg h2] at h
  by_cases h3 : a0.toList = [43]
  case neg => rw [if_neg h3] at h; cases h
  rw [if_pos h3] at h
  have ht : Go.Proofs.YtnefifgfpljlkaaOpers.table a0 = some (47, [⟨#[105, 110, 116]⟩, ⟨#[114, 101, 97, 108]⟩, ⟨#[115, 116, 114]⟩], ⟨#[]⟩) := by unfold Go.Proofs.YtnefifgfpljlkaaOpers.table; rw [if_pos h3]
  have hmf : ∀ (fn : Fn) (first cap : Array Value) (w : World), (Instr.makeFunc fn first cap).run Try.prog w = .ok (.func fn first cap) w := fun _ _ _ _ => rfl
  have H := Aside0.mk h
  have HTB := Aside0.mk ht
  clear h h1 h2 h3 ht
  by_cases h4 : a1_0 = 1 ∧ a2_0 = 1
  · have h := H.out
    rw [if_pos h4] at h
    obtain ⟨rfl, rfl⟩ := h4
    simp only [Option.some.injEq, Prod.mk.injEq] at h
    obtain ⟨rfl, rfl, rfl, rfl, rfl, rfl, rfl⟩ := h
    clear H
    go_enter_defers Try.func27, Try.ntmps27
    go_wp2_with fail
    rw [← HW4.out]
    refine (Go.Proofs.YtnefifgfpljlkaaOpers.opers_calls _).mono ?_
    rintro e w1 ⟨B, rfl, hb1, hH⟩
    have HB1 := Aside0.mk (HB4.out.trans (hb1.mono HB4.out.size))
    have HX11 := (hb1.block _ (lt_of_at HX1.out)).trans HX1.out
    have HX21 := (hb1.block _ (lt_of_at HX2.out)).trans HX2.out
    have HZ1 := (hb1.block _ (lt_of_at HZ.out)).trans HZ.out
    have HT1 := (hb1.block _ (lt_of_at HT.out)).trans HT.out
    obtain ⟨Lm, cm, hmB, hmF⟩ := hH.out
    have hlk0 := lookup_ok (P := Try.prog) (T := 58) (venc := fun v : Value => v) Go.Proofs.YtnefifgfpljlkaaOpers.str_law Try.underlying58 Go.Proofs.YtnefifgfpljlkaaAdds.zeroO hmB a0
    have hF := hmF a0
    rw [HTB.out] at hF
    simp only at hF
    obtain ⟨ix, Ax, cx, hfi, hcx, hC⟩ := hF
    rw [hfi] at hlk0
    simp only at hlk0
    have HCL1 := Aside0.mk (Kd.C_below hC ((Below.refl w1.heap.size w1).alloc (Nat.le_refl _) (.cells #[.func (.func 47) #[] #[], .slice Ax 3 cx, .string ⟨#[]⟩] 56 (0, 0))))
    have HO1 := Aside0.mk (at_new w1 (.cells #[.func (.func 47) #[] #[], .slice Ax 3 cx, .string ⟨#[]⟩] 56 (0, 0)) rfl)
    have HB1' := Aside0.mk (HB1.out.alloc HB1.out.size (.cells #[.func (.func 47) #[] #[], .slice Ax 3 cx, .string ⟨#[]⟩] 56 (0, 0)))
    have HX1a := Aside0.mk (at_alloc HX11 (.cells #[.func (.func 47) #[] #[], .slice Ax 3 cx, .string ⟨#[]⟩] 56 (0, 0)))
    have HX2a := Aside0.mk (at_alloc HX21 (.cells #[.func (.func 47) #[] #[], .slice Ax 3 cx, .string ⟨#[]⟩] 56 (0, 0)))
    have HZ1a := Aside0.mk (at_alloc HZ1 (.cells #[.func (.func 47) #[] #[], .slice Ax 3 cx, .string ⟨#[]⟩] 56 (0, 0)))
    have HT1a := Aside0.mk (at_alloc HT1 (.cells #[.func (.func 47) #[] #[], .slice Ax 3 cx, .string ⟨#[]⟩] 56 (0, 0)))
    have HSZ := Aside0.mk (show w.heap.size + 4 ≤ w1.heap.size by have := lt_of_at HT1; omega)
    clear hb1 hH hmB hmF hfi hC HX11 HX21 HZ1 HT1
    have x0 := cell_at HX1a.out 0
    simp only [List.getElem?_toArray, List.getElem?_cons_zero, List.getElem?_cons_succ] at x0
    go_wp2_with fail
    refine (words_OfTag.calls 1 ⟨#[105, 110, 116]⟩ 0 _ (by unfold words_OfTag.f; rfl)).mono ?_
    rintro e w2 ⟨rfl, hb2⟩
    have HB2 := Aside0.mk (HB1'.out.trans (hb2.mono HB1'.out.size))
    have HX12 := (hb2.block _ (lt_of_at HX1a.out)).trans HX1a.out
    have HX22 := (hb2.block _ (lt_of_at HX2a.out)).trans HX2a.out
    have HZ2 := Aside0.mk ((hb2.block _ (lt_of_at HZ1a.out)).trans HZ1a.out)
    have HT2 := Aside0.mk ((hb2.block _ (lt_of_at HT1a.out)).trans HT1a.out)
    have HO2 := (hb2.block _ (lt_of_at HO1.out)).trans HO1.out
    have HCL2 := Aside0.mk (Kd.C_below HCL1.out hb2)
    have HSZ2 := Aside0.mk (show w.heap.size + 4 ≤ w2.heap.size by have := lt_of_at HT2.out; omega)
    clear hb2 HX1a HX2a HZ1a HT1a HO1 HB1' HCL1 x0
    have x0 := cell_at HX12 0
    have x1 := cell_at HX12 1
    have x2 := cell_at HX12 2
    have x3 := cell_at HX12 3
    have x4 := cell_at HX12 4
    have y0 := cell_at HX22 0
    have y1 := cell_at HX22 1
    have y2 := cell_at HX22 2
    have y3 := cell_at HX22 3
    have y4 := cell_at HX22 4
    have o0 := cell_at HO2 0
    have o1 := cell_at HO2 1
    simp only [List.getElem?_toArray, List.getElem?_cons_zero, List.getElem?_cons_succ] at x0 x1 x2 x3 x4 y0 y1 y2 y3 y4 o0 o1
    clear HX12 HX22 HO2
    go_wp2_with fail
    refine (slices_Contains_string_string.calls Ax cx [⟨#[105, 110, 116]⟩, ⟨#[114, 101, 97, 108]⟩, ⟨#[115, 116, 114]⟩] ⟨#[105, 110, 116]⟩ true _ HCL2.out hcx (by kernel_rfl)).mono ?_
    rintro e w3 ⟨rfl, hb3⟩
    obtain ⟨k3, rfl⟩ := hb3
    go_wp2_with fail
    refine (Go.Proofs.YtnefifgfpljlkaaAdds.adds_int a1_1 a1_2 a1_3 A1_4 l1_4.length c1_4 1 a2_1 a2_2 a2_3 A2_4 l2_4.length c2_4 _).mono ?_
    rintro e w5 ⟨rfl, hb5⟩
    have HB5 := Aside0.mk ((pw_below_drewN HB2.out k3).trans (hb5.mono HB2.out.size))
    have HZ5 := Aside0.mk ((hb5.block _ (lt_of_at HZ2.out)).trans HZ2.out)
    have HT5 := Aside0.mk ((hb5.block _ (lt_of_at HT2.out)).trans HT2.out)
    clear hb5 HB2 x0 x1 x2 x3 x4 y0 y1 y2 y3 y4 o0 o1
    have g0 := cell_at HZ5.out 0
    have f0 := free_at HZ5.out 0
    have g1 := cell_at HZ5.out 1
    have f1 := free_at HZ5.out 1
    have g2 := cell_at HZ5.out 2
    have f2 := free_at HZ5.out 2
    have g3 := cell_at HZ5.out 3
    have f3 := free_at HZ5.out 3
    have g4 := cell_at HZ5.out 4
    have f4 := free_at HZ5.out 4
    have g5 := cell_at HT5.out 0
    have f5 := free_at HT5.out 0
    simp only [List.getElem?_toArray, List.getElem?_cons_zero, List.getElem?_cons_succ] at g0 g1 g2 g3 g4 g5
    go_wp2_with fail
    refine leaves_cons (f := 45) (args := #[.pointer (some ⟨w.heap.size + 1 + 1, 0, none⟩), .pointer (some ⟨w.heap.size + 1 + 1 + 1, 0, none⟩)]) (by simp) (by simp [go_sem]) ?_
    refine (Go.Proofs.YtnefifgfpljlkaaAdds.catch_idle _ _ _).mono ?_
    rintro e u' w'' ⟨rfl, rfl, rfl⟩
    refine ⟨_, opers_Do.res _ _ (w.heap.size + 1 + 1) (w.heap.size + 1 + 1 + 1) (.int .i64 1) (.int .i64 (wrap64 (a1_1 + a2_1))) (.int .u64 0) (.string ⟨#[]⟩) (.slice none 0 0) 0 rfl rfl ?_ ?_, _, rfl, Kd.R_nil _ _ _ _ _, ?_⟩
    · exact blk_far (blk_put (blk_put (blk_put (blk_put (blk_put HZ5.out 0 _ rfl) 1 _ rfl) 2 _ rfl) 3 _ rfl) 4 _ rfl) (by simp) _
    · exact blk_put (blk_far (blk_far (blk_far (blk_far (blk_far HT5.out (by simp) _) (by simp) _) (by simp) _) (by simp) _) (by simp) _) 0 _ rfl
    · exact below_set (below_set (below_set (below_set (below_set (below_set HB5.out (by omega)) (by omega)) (by omega)) (by omega)) (by omega)) (by omega)
  have h := H.out
  rw [if_neg h4] at h
  by_cases h5 : a1_0 = 4 ∧ a2_0 = 4 ∧ a1_3.size + a2_3.size ≤ 1000
  case neg => rw [if_neg h5] at h; cases h
  rw [if_pos h5] at h
  obtain ⟨rfl, rfl, hsz⟩ := h5
  simp only [Option.some.injEq, Prod.mk.injEq] at h
  obtain ⟨rfl, rfl, rfl, rfl, rfl, rfl, rfl⟩ := h
  have HSS := Aside0.mk hsz
  clear H hsz h4
  go_enter_defers Try.func27, Try.ntmps27
  go_wp2_with fail
  rw [← HW4.out]
  refine (Go.Proofs.YtnefifgfpljlkaaOpers.opers_calls _).mono ?_
  rintro e w1 ⟨B, rfl, hb1, hH⟩
  have HB1 := Aside0.mk (HB4.out.trans (hb1.mono HB4.out.size))
  have HX11 := (hb1.block _ (lt_of_at HX1.out)).trans HX1.out
  have HX21 := (hb1.block _ (lt_of_at HX2.out)).trans HX2.out
  have HZ1 := (hb1.block _ (lt_of_at HZ.out)).trans HZ.out
  have HT1 := (hb1.block _ (lt_of_at HT.out)).trans HT.out
  obtain ⟨Lm, cm, hmB, hmF⟩ := hH.out
  have hlk0 := lookup_ok (P := Try.prog) (T := 58) (venc := fun v : Value => v) Go.Proofs.YtnefifgfpljlkaaOpers.str_law Try.underlying58 Go.Proofs.YtnefifgfpljlkaaAdds.zeroO hmB a0
  have hF := hmF a0
  rw [HTB.out] at hF
  simp only at hF
  obtain ⟨ix, Ax, cx, hfi, hcx, hC⟩ := hF
  rw [hfi] at hlk0
  simp only at hlk0
  have HCL1 := Aside0.mk (Kd.C_below hC ((Below.refl w1.heap.size w1).alloc (Nat.le_refl _) (.cells #[.func (.func 47) #[] #[], .slice Ax 3 cx, .string ⟨#[]⟩] 56 (0, 0))))
  have HO1 := Aside0.mk (at_new w1 (.cells #[.func (.func 47) #[] #[], .slice Ax 3 cx, .string ⟨#[]⟩] 56 (0, 0)) rfl)
  have HB1' := Aside0.mk (HB1.out.alloc HB1.out.size (.cells #[.func (.func 47) #[] #[], .slice Ax 3 cx, .string ⟨#[]⟩] 56 (0, 0)))
  have HX1a := Aside0.mk (at_alloc HX11 (.cells #[.func (.func 47) #[] #[], .slice Ax 3 cx, .string ⟨#[]⟩] 56 (0, 0)))
  have HX2a := Aside0.mk (at_alloc HX21 (.cells #[.func (.func 47) #[] #[], .slice Ax 3 cx, .string ⟨#[]⟩] 56 (0, 0)))
  have HZ1a := Aside0.mk (at_alloc HZ1 (.cells #[.func (.func 47) #[] #[], .slice Ax 3 cx, .string ⟨#[]⟩] 56 (0, 0)))
  have HT1a := Aside0.mk (at_alloc HT1 (.cells #[.func (.func 47) #[] #[], .slice Ax 3 cx, .string ⟨#[]⟩] 56 (0, 0)))
  have HSZ := Aside0.mk (show w.heap.size + 4 ≤ w1.heap.size by have := lt_of_at HT1; omega)
  clear hb1 hH hmB hmF hfi hC HX11 HX21 HZ1 HT1
  have x0 := cell_at HX1a.out 0
  simp only [List.getElem?_toArray, List.getElem?_cons_zero, List.getElem?_cons_succ] at x0
  go_wp2_with fail
  refine (words_OfTag.calls 4 ⟨#[115, 116, 114]⟩ 0 _ (by unfold words_OfTag.f; rfl)).mono ?_
  rintro e w2 ⟨rfl, hb2⟩
  have HB2 := Aside0.mk (HB1'.out.trans (hb2.mono HB1'.out.size))
  have HX12 := (hb2.block _ (lt_of_at HX1a.out)).trans HX1a.out
  have HX22 := (hb2.block _ (lt_of_at HX2a.out)).trans HX2a.out
  have HZ2 := Aside0.mk ((hb2.block _ (lt_of_at HZ1a.out)).trans HZ1a.out)
  have HT2 := Aside0.mk ((hb2.block _ (lt_of_at HT1a.out)).trans HT1a.out)
  have HO2 := (hb2.block _ (lt_of_at HO1.out)).trans HO1.out
  have HCL2 := Aside0.mk (Kd.C_below HCL1.out hb2)
  have HSZ2 := Aside0.mk (show w.heap.size + 4 ≤ w2.heap.size by have := lt_of_at HT2.out; omega)
  clear hb2 HX1a HX2a HZ1a HT1a HO1 HB1' HCL1 x0
  have x0 := cell_at HX12 0
  have x1 := cell_at HX12 1
  have x2 := cell_at HX12 2
  have x3 := cell_at HX12 3
  have x4 := cell_at HX12 4
  have y0 := cell_at HX22 0
  have y1 := cell_at HX22 1
  have y2 := cell_at HX22 2
  have y3 := cell_at HX22 3
  have y4 := cell_at HX22 4
  have o0 := cell_at HO2 0
  have o1 := cell_at HO2 1
  simp only [List.getElem?_toArray, List.getElem?_cons_zero, List.getElem?_cons_succ] at x0 x1 x2 x3 x4 y0 y1 y2 y3 y4 o0 o1
  clear HX12 HX22 HO2
  go_wp2_with fail
  refine (slices_Contains_string_string.calls Ax cx [⟨#[105, 110, 116]⟩, ⟨#[114, 101, 97, 108]⟩, ⟨#[115, 116, 114]⟩] ⟨#[115, 116, 114]⟩ true _ HCL2.out hcx (by kernel_rfl)).mono ?_
  rintro e w3 ⟨rfl, hb3⟩
  obtain ⟨k3, rfl⟩ := hb3
  go_wp2_with fail
  refine (Go.Proofs.YtnefifgfpljlkaaAdds.adds_str a1_1 a1_2 a1_3 A1_4 l1_4.length c1_4 4 a2_1 a2_2 a2_3 A2_4 l2_4.length c2_4 _ HSS.out).mono ?_
  rintro e w5 ⟨rfl, hb5⟩
  have HB5 := Aside0.mk ((pw_below_drewN HB2.out k3).trans (hb5.mono HB2.out.size))
  have HZ5 := Aside0.mk ((hb5.block _ (lt_of_at HZ2.out)).trans HZ2.out)
  have HT5 := Aside0.mk ((hb5.block _ (lt_of_at HT2.out)).trans HT2.out)
  clear hb5 HB2 x0 x1 x2 x3 x4 y0 y1 y2 y3 y4 o0 o1
  have g0 := cell_at HZ5.out 0
  have f0 := free_at HZ5.out 0
  have g1 := cell_at HZ5.out 1
  have f1 := free_at HZ5.out 1
  have g2 := cell_at HZ5.out 2
  have f2 := free_at HZ5.out 2
  have g3 := cell_at HZ5.out 3
  have f3 := free_at HZ5.out 3
  have g4 := cell_at HZ5.out 4
  have f4 := free_at HZ5.out 4
  have g5 := cell_at HT5.out 0
  have f5 := free_at HT5.out 0
  simp only [List.getElem?_toArray, List.getElem?_cons_zero, List.getElem?_cons_succ] at g0 g1 g2 g3 g4 g5
  go_wp2_with fail
  refine leaves_cons (f := 45) (args := #[.pointer (some ⟨w.heap.size + 1 + 1, 0, none⟩), .pointer (some ⟨w.heap.size + 1 + 1 + 1, 0, none⟩)]) (by simp) (by simp [go_sem]) ?_
  refine (Go.Proofs.YtnefifgfpljlkaaAdds.catch_idle _ _ _).mono ?_
  rintro e u' w'' ⟨rfl, rfl, rfl⟩
  refine ⟨_, opers_Do.res _ _ (w.heap.size + 1 + 1) (w.heap.size + 1 + 1 + 1) (.int .i64 4) (.int .i64 0) (.int .u64 0) (.string (a1_3 ++ a2_3)) (.slice none 0 0) 0 rfl rfl ?_ ?_, _, rfl, Kd.R_nil _ _ _ _ _, ?_⟩
  · exact blk_far (blk_put (blk_put (blk_put (blk_put (blk_put HZ5.out 0 _ rfl) 1 _ rfl) 2 _ rfl) 3 _ rfl) 4 _ rfl) (by simp) _
  · exact blk_put (blk_far (blk_far (blk_far (blk_far (blk_far HT5.out (by simp) _) (by simp) _) (by simp) _) (by simp) _) (by simp) _) 0 _ rfl
  · exact below_set (below_set (below_set (below_set (below_set (below_set HB5.out (by omega)) (by omega)) (by omega)) (by omega)) (by omega)) (by omega)

end Go.Proofs.Ytnefifgfpljlkaa.PAll
