-- WRITTEN BY hand.py of this session, over the kit's print: a text of this seat
import Derived.Test.YtnefifgfpljlkaaPAllx0
import Derived.Test.YtnefifgfpljlkaaPAllx8
import Derived.Test.YtnefifgfpljlkaaPAllx11
namespace Go.Proofs.Ytnefifgfpljlkaa.PAll
open Go.RowKit Go.Proofs.YtnefifgfpljlkaaW.PrintWords Go.Proofs.YtnefifgfpljlkaaW.PrintLast Go.Proofs.YtnefifgfpljlkaaW.PrintMore
attribute [local go_sem] max2_int min2_int max_two min_two max_three min_three max_four min_four   -- for this text's walks alone
set_option linter.unusedVariables false
set_option linter.unusedSimpArgs false

/-! ### opers_Bin: function 11 -/
def opers_Bin.eq (s : ByteArray) : Bool := s.toList == ([61, 61] : List UInt8) || s.toList == ([33, 61] : List UInt8)
def opers_Bin.lg (s : ByteArray) : Bool := s.toList == ([38, 38] : List UInt8) || s.toList == ([124, 124] : List UInt8)
def opers_Bin.told (r s : ByteArray) : ByteArray × ByteArray × Bool × Int := (s, if (r.toList == ([] : List UInt8)) = true then s else r, s.toList == ([63] : List UInt8), 0)
def opers_Bin.no (e : Int) : ByteArray × ByteArray × Bool × Int := (⟨#[]⟩, ⟨#[]⟩, false, e)
def opers_Bin.f (a0 : ByteArray) (a1 : ByteArray) (a2 : ByteArray) : Option (ByteArray × ByteArray × Bool × Int) :=
  match Go.Proofs.YtnefifgfpljlkaaOpers.table a0 with
  | none =>
    if opers_Bin.eq a0 = true then (words_Type.f a1).bind fun t1 => if t1 = true then (words_Type.f a2).bind fun t2 => if t2 = true then some (⟨#[]⟩, ⟨#[98, 111, 111, 108]⟩, false, 0) else some (opers_Bin.no 7) else some (opers_Bin.no 7)
    else if opers_Bin.lg a0 = true then (words_Type.f a1).bind fun t1 => if t1 = true then (words_Type.f a2).bind fun t2 => if t2 = true then opers_logical.f a1 a2 else some (opers_Bin.no 7) else some (opers_Bin.no 7)
    else some (opers_Bin.no 2)
  | some (_, l, r) => (words_Type.f a1).bind fun t1 => if t1 = true then (words_Type.f a2).bind fun t2 => if t2 = true then
      (slices_Contains_string_string.f l a1).bind fun m1 =>
        if (m1 && (a2.toList == a1.toList || a2.toList == ([63] : List UInt8))) = true then some (opers_Bin.told r a1)
        else if (a1.toList == ([63] : List UInt8)) = true then
          (if (a2.toList == ([63] : List UInt8)) = true then some (opers_Bin.told r a2) else (slices_Contains_string_string.f l a2).bind fun m2 => if m2 = true then some (opers_Bin.told r a2) else some (opers_Bin.no 7))
        else some (opers_Bin.no 7)
      else some (opers_Bin.no 7) else some (opers_Bin.no 7)
theorem opers_Bin.alone {s : ByteArray} {x : Nat × List ByteArray × ByteArray} (h : Go.Proofs.YtnefifgfpljlkaaOpers.table s = some x) : (s.toList == ([61, 61] : List UInt8)) = false ∧ (s.toList == ([33, 61] : List UInt8)) = false ∧ (s.toList == ([38, 38] : List UInt8)) = false ∧ (s.toList == ([124, 124] : List UInt8)) = false := by
  unfold Go.Proofs.YtnefifgfpljlkaaOpers.table at h
  refine ⟨?_, ?_, ?_, ?_⟩ <;> (rw [beq_eq_false_iff_ne]; intro e; rw [e] at h; revert h; simp)
theorem opers_Bin.zero (w : World) : (zeroValue 56).run Try.prog w = .ok (.agg #[.nilFunc, .slice none 0 0, .string ⟨#[]⟩]) w := by kernel_rfl
/-- What an operation tells of a type. -/
theorem opers_Bin.told_calls (vf : Nat) (A : Option Addr) (n c : Nat) (r s : ByteArray) (w : World) : Calls Try.prog 33 #[.agg #[.func (.func vf) #[] #[], .slice A n c, .string r], .string s] w fun e w' => e = .returned (.agg #[.string (opers_Bin.told r s).1, .string (opers_Bin.told r s).2.1, .bool (opers_Bin.told r s).2.2.1]) ∧ Below w.heap.size w w' := by
  have hu := Try.underlying33
  have hv := Try.underlying56
  unfold opers_Bin.told
  obtain ⟨q, hq⟩ : ∃ q, q = (s.toList == ([63] : List UInt8)) := ⟨_, rfl⟩
  have HQ := Aside0.mk hq
  cases hr : (r.toList == ([] : List UInt8)) with
  | true =>
    have hr2 : r.toList.isEmpty = true := by simpa using hr
    rw [if_pos rfl]
    rw [← hq]
    cases q
    all_goals
      have hq2 := hq.symm
      clear hq
      go_enter Try.func33, Try.ntmps33
      go_wp2
      exact bodyPost_ret (v := .agg #[.string s, .string s, .bool _]) (by simp [results, Try.results33, go_sem]) rfl ⟨rfl, (((Below.refl _ _).alloc (Nat.le_refl _) _).alloc (by simp) _).alloc (by simp; omega) _⟩
  | false =>
    have hr2 : r.toList.isEmpty = false := by cases h : r.toList <;> simp_all
    rw [if_neg (by decide)]
    rw [← hq]
    cases q
    all_goals
      have hq2 := hq.symm
      clear hq
      go_enter Try.func33, Try.ntmps33
      go_wp2
      exact bodyPost_ret (v := .agg #[.string s, .string r, .bool _]) (by simp [results, Try.results33, go_sem]) rfl ⟨rfl, (((Below.refl _ _).alloc (Nat.le_refl _) _).alloc (by simp) _).alloc (by simp; omega) _⟩
open Go.Proofs.YtnefifgfpljlkaaRF Go.Proofs.YtnefifgfpljlkaaRG Go.Proofs.YtnefifgfpljlkaaMp in
set_option maxHeartbeats 8000000 in
set_option maxRecDepth 100000 in
theorem opers_Bin.calls (a0 : ByteArray) (a1 : ByteArray) (a2 : ByteArray) (r1 : ByteArray) (r2 : ByteArray) (r3 : Bool) (r4 : Int) (w : World) (h : opers_Bin.f a0 a1 a2 = some (r1, r2, r3, r4)) :
    Calls Try.prog 11 #[.string a0, .string a1, .string a2] w fun e w' => e = .returned (.tuple #[.agg #[.string r1, .string r2, .bool r3], .int .i64 r4]) ∧ Below w.heap.size w w' := by
  unfold opers_Bin.f at h
  have H := Aside0.mk h
  clear h
  have hu := Try.underlying33
  have hv := Try.underlying56
  go_enter Try.func11, Try.ntmps11
  go_wp2_with fail
  refine (Go.Proofs.YtnefifgfpljlkaaOpers.opers_calls _).mono ?_
  rintro e w1 ⟨B, rfl, hb1, hH⟩
  have HB1 := Aside0.mk (show Below w.heap.size w w1 from ((Below.refl w.heap.size w).alloc (Nat.le_refl _) _).trans (hb1.mono (by simp)))
  have HG1 := Aside0.mk ((hb1.block w.heap.size (by simp)).trans (at_new w (.cells #[.string ⟨#[]⟩, .string ⟨#[]⟩, .bool false] 33) rfl))
  obtain ⟨Lm, cm, hmB, hmF⟩ := hH.out
  have hlk0 := lookup_ok (P := Try.prog) (T := 58) (venc := fun v : Value => v) Go.Proofs.YtnefifgfpljlkaaOpers.str_law Try.underlying58 opers_Bin.zero hmB a0
  have HF := Aside0.mk (hmF a0)
  clear hb1 hH hmB hmF
  cases ht : Go.Proofs.YtnefifgfpljlkaaOpers.table a0 with
  | none =>
    have HF2 := HF.out
    rw [ht] at HF2
    simp only at HF2
    rw [HF2] at hlk0
    simp only at hlk0
    have H2 := H.out
    rw [ht] at H2
    simp only at H2
    clear HF2 HF H ht
    have H := Aside0.mk H2
    clear H2
    cases he : opers_Bin.eq a0 with
    | true =>
      have H2 := H.out
      rw [he, if_pos rfl] at H2
      have he2 : (a0.toList == ([61, 61] : List UInt8)) = true ∨ ((a0.toList == ([61, 61] : List UInt8)) = false ∧ (a0.toList == ([33, 61] : List UInt8)) = true) := by
        unfold opers_Bin.eq at he
        cases hb : (a0.toList == ([61, 61] : List UInt8)) with
        | true => exact .inl rfl
        | false => rw [hb] at he; exact .inr ⟨rfl, by simpa using he⟩
      clear he H
      obtain ⟨t1, ht1, H2⟩ := Option.bind_eq_some_iff.1 H2
      have HT1 := Aside0.mk ht1
      have H := Aside0.mk H2
      clear ht1 H2
      have hg1 : (a0.toList == ([38, 38] : List UInt8)) = false := by
        rcases he2 with he | ⟨_, he⟩ <;> (rw [beq_iff_eq] at he; rw [he]; rfl)
      have hg2 : (a0.toList == ([124, 124] : List UInt8)) = false := by
        rcases he2 with he | ⟨_, he⟩ <;> (rw [beq_iff_eq] at he; rw [he]; rfl)

      rcases he2 with he1 | ⟨he1, he2⟩
      all_goals
        go_wp2_with fail
        refine (words_Type.calls a1 t1 _ HT1.out).mono ?_
        rintro e w2 ⟨rfl, hb2⟩
        have HB2 := Aside0.mk ((HB1.out.alloc HB1.out.size (.cells #[.nilFunc, .slice none 0 0, .string ⟨#[]⟩] 56 (0, 0))).trans (hb2.mono (by have := HB1.out.size; simp; omega)))
        have HG2 := Aside0.mk ((hb2.block _ (lt_of_at (at_alloc HG1.out (.cells #[.nilFunc, .slice none 0 0, .string ⟨#[]⟩] 56 (0, 0))))).trans (at_alloc HG1.out (.cells #[.nilFunc, .slice none 0 0, .string ⟨#[]⟩] 56 (0, 0))))
        clear hb2 HB1 HG1
        cases t1 with
        | false =>
          have h := H.out
          rw [if_neg (by decide)] at h
          have H := Aside0.mk h
          clear h
          have h := H.out
          simp only [opers_Bin.no, Option.some.injEq, Prod.mk.injEq] at h
          obtain ⟨rfl, rfl, rfl, rfl⟩ := h
          have g0 := cell_at HG2.out 0
          have g1 := cell_at HG2.out 1
          have g2 := cell_at HG2.out 2
          have f0 := free_at HG2.out 0
          have f1 := free_at HG2.out 1
          have f2 := free_at HG2.out 2
          simp only [List.getElem?_toArray, List.getElem?_cons_zero, List.getElem?_cons_succ] at g0 g1 g2
          go_wp2_with fail
          refine bodyPost_ret (results_ct rfl _ _ w.heap.size 33 #[.string ⟨#[]⟩, .string ⟨#[]⟩, .bool false] (0, 0) _ rfl ?_ Try.underlying33 rfl (by kernel_rfl)) rfl ⟨rfl, ?_⟩
          · exact blk_put (blk_put (blk_put HG2.out 0 _ rfl) 1 _ rfl) 2 _ rfl
          · exact below_set (below_set (below_set HB2.out (Nat.le_refl _)) (Nat.le_refl _)) (Nat.le_refl _)
        | true =>
          have h := H.out
          rw [if_pos rfl] at h
          obtain ⟨t2, ht2, h⟩ := Option.bind_eq_some_iff.1 h
          have HT2 := Aside0.mk ht2
          have H := Aside0.mk h
          clear h ht2
          go_wp2_with fail
          refine (words_Type.calls a2 t2 _ HT2.out).mono ?_
          rintro e w3 ⟨rfl, hb3⟩
          have HB3 := Aside0.mk (HB2.out.trans (hb3.mono HB2.out.size))
          have HG3 := Aside0.mk ((hb3.block _ (lt_of_at HG2.out)).trans HG2.out)
          clear hb3 HB2 HG2
          cases t2 with
          | false =>
            have h := H.out
            rw [if_neg (by decide)] at h
            have H := Aside0.mk h
            clear h
            have h := H.out
            simp only [opers_Bin.no, Option.some.injEq, Prod.mk.injEq] at h
            obtain ⟨rfl, rfl, rfl, rfl⟩ := h
            have g0 := cell_at HG3.out 0
            have g1 := cell_at HG3.out 1
            have g2 := cell_at HG3.out 2
            have f0 := free_at HG3.out 0
            have f1 := free_at HG3.out 1
            have f2 := free_at HG3.out 2
            simp only [List.getElem?_toArray, List.getElem?_cons_zero, List.getElem?_cons_succ] at g0 g1 g2
            go_wp2_with fail
            refine bodyPost_ret (results_ct rfl _ _ w.heap.size 33 #[.string ⟨#[]⟩, .string ⟨#[]⟩, .bool false] (0, 0) _ rfl ?_ Try.underlying33 rfl (by kernel_rfl)) rfl ⟨rfl, ?_⟩
            · exact blk_put (blk_put (blk_put HG3.out 0 _ rfl) 1 _ rfl) 2 _ rfl
            · exact below_set (below_set (below_set HB3.out (Nat.le_refl _)) (Nat.le_refl _)) (Nat.le_refl _)
          | true =>
            have h := H.out
            rw [if_pos rfl] at h
            simp only [Option.some.injEq, Prod.mk.injEq] at h
            obtain ⟨rfl, rfl, rfl, rfl⟩ := h
            have g0 := cell_at HG3.out 0
            have g1 := cell_at HG3.out 1
            have g2 := cell_at HG3.out 2
            have f0 := free_at HG3.out 0
            have f1 := free_at HG3.out 1
            have f2 := free_at HG3.out 2
            simp only [List.getElem?_toArray, List.getElem?_cons_zero, List.getElem?_cons_succ] at g0 g1 g2
            go_wp2_with fail
            refine bodyPost_ret (results_ct rfl _ _ w.heap.size 33 #[.string ⟨#[]⟩, .string ⟨#[98, 111, 111, 108]⟩, .bool false] (0, 0) _ rfl ?_ Try.underlying33 rfl (by kernel_rfl)) rfl ⟨rfl, ?_⟩
            · exact blk_put (blk_put (blk_put HG3.out 0 _ rfl) 1 _ rfl) 2 _ rfl
            · exact below_set (below_set (below_set HB3.out (Nat.le_refl _)) (Nat.le_refl _)) (Nat.le_refl _)
    | false =>
      have H2 := H.out
      rw [he, if_neg (by decide)] at H2
      obtain ⟨he1, he2⟩ : (a0.toList == ([61, 61] : List UInt8)) = false ∧ (a0.toList == ([33, 61] : List UInt8)) = false := Bool.or_eq_false_iff.1 he
      clear he H
      cases hl : opers_Bin.lg a0 with
      | true =>
        rw [hl, if_pos rfl] at H2
        have hl2 : (a0.toList == ([38, 38] : List UInt8)) = true ∨ ((a0.toList == ([38, 38] : List UInt8)) = false ∧ (a0.toList == ([124, 124] : List UInt8)) = true) := by
          unfold opers_Bin.lg at hl
          cases hb : (a0.toList == ([38, 38] : List UInt8)) with
          | true => exact .inl rfl
          | false => rw [hb] at hl; exact .inr ⟨rfl, by simpa using hl⟩
        clear hl
        obtain ⟨t1, ht1, H2⟩ := Option.bind_eq_some_iff.1 H2
        have HT1 := Aside0.mk ht1
        have H := Aside0.mk H2
        clear ht1 H2
        rcases hl2 with hl1 | ⟨hl1, hl2⟩
        all_goals
          go_wp2_with fail
          refine (words_Type.calls a1 t1 _ HT1.out).mono ?_
          rintro e w2 ⟨rfl, hb2⟩
          have HB2 := Aside0.mk ((HB1.out.alloc HB1.out.size (.cells #[.nilFunc, .slice none 0 0, .string ⟨#[]⟩] 56 (0, 0))).trans (hb2.mono (by have := HB1.out.size; simp; omega)))
          have HG2 := Aside0.mk ((hb2.block _ (lt_of_at (at_alloc HG1.out (.cells #[.nilFunc, .slice none 0 0, .string ⟨#[]⟩] 56 (0, 0))))).trans (at_alloc HG1.out (.cells #[.nilFunc, .slice none 0 0, .string ⟨#[]⟩] 56 (0, 0))))
          clear hb2 HB1 HG1
          cases t1 with
          | false =>
            have h := H.out
            rw [if_neg (by decide)] at h
            have H := Aside0.mk h
            clear h
            have h := H.out
            simp only [opers_Bin.no, Option.some.injEq, Prod.mk.injEq] at h
            obtain ⟨rfl, rfl, rfl, rfl⟩ := h
            have g0 := cell_at HG2.out 0
            have g1 := cell_at HG2.out 1
            have g2 := cell_at HG2.out 2
            have f0 := free_at HG2.out 0
            have f1 := free_at HG2.out 1
            have f2 := free_at HG2.out 2
            simp only [List.getElem?_toArray, List.getElem?_cons_zero, List.getElem?_cons_succ] at g0 g1 g2
            go_wp2_with fail
            refine bodyPost_ret (results_ct rfl _ _ w.heap.size 33 #[.string ⟨#[]⟩, .string ⟨#[]⟩, .bool false] (0, 0) _ rfl ?_ Try.underlying33 rfl (by kernel_rfl)) rfl ⟨rfl, ?_⟩
            · exact blk_put (blk_put (blk_put HG2.out 0 _ rfl) 1 _ rfl) 2 _ rfl
            · exact below_set (below_set (below_set HB2.out (Nat.le_refl _)) (Nat.le_refl _)) (Nat.le_refl _)
          | true =>
            have h := H.out
            rw [if_pos rfl] at h
            obtain ⟨t2, ht2, h⟩ := Option.bind_eq_some_iff.1 h
            have HT2 := Aside0.mk ht2
            have H := Aside0.mk h
            clear h ht2
            go_wp2_with fail
            refine (words_Type.calls a2 t2 _ HT2.out).mono ?_
            rintro e w3 ⟨rfl, hb3⟩
            have HB3 := Aside0.mk (HB2.out.trans (hb3.mono HB2.out.size))
            have HG3 := Aside0.mk ((hb3.block _ (lt_of_at HG2.out)).trans HG2.out)
            clear hb3 HB2 HG2
            cases t2 with
            | false =>
              have h := H.out
              rw [if_neg (by decide)] at h
              have H := Aside0.mk h
              clear h
              have h := H.out
              simp only [opers_Bin.no, Option.some.injEq, Prod.mk.injEq] at h
              obtain ⟨rfl, rfl, rfl, rfl⟩ := h
              have g0 := cell_at HG3.out 0
              have g1 := cell_at HG3.out 1
              have g2 := cell_at HG3.out 2
              have f0 := free_at HG3.out 0
              have f1 := free_at HG3.out 1
              have f2 := free_at HG3.out 2
              simp only [List.getElem?_toArray, List.getElem?_cons_zero, List.getElem?_cons_succ] at g0 g1 g2
              go_wp2_with fail
              refine bodyPost_ret (results_ct rfl _ _ w.heap.size 33 #[.string ⟨#[]⟩, .string ⟨#[]⟩, .bool false] (0, 0) _ rfl ?_ Try.underlying33 rfl (by kernel_rfl)) rfl ⟨rfl, ?_⟩
              · exact blk_put (blk_put (blk_put HG3.out 0 _ rfl) 1 _ rfl) 2 _ rfl
              · exact below_set (below_set (below_set HB3.out (Nat.le_refl _)) (Nat.le_refl _)) (Nat.le_refl _)
            | true =>
              have h := H.out
              rw [if_pos rfl] at h
              have H := Aside0.mk h
              clear h
              go_wp2_with fail
              refine (opers_logical.calls a1 a2 r1 r2 r3 r4 _ H.out).mono ?_
              rintro e w4 ⟨rfl, hb4⟩
              have HB4 := Aside0.mk (HB3.out.trans (hb4.mono HB3.out.size))
              have HG4 := Aside0.mk ((hb4.block _ (lt_of_at HG3.out)).trans HG3.out)
              clear hb4 HB3 HG3
              have g0 := cell_at HG4.out 0
              have g1 := cell_at HG4.out 1
              have g2 := cell_at HG4.out 2
              have f0 := free_at HG4.out 0
              have f1 := free_at HG4.out 1
              have f2 := free_at HG4.out 2
              simp only [List.getElem?_toArray, List.getElem?_cons_zero, List.getElem?_cons_succ] at g0 g1 g2
              go_wp2_with fail
              refine bodyPost_ret (results_ct rfl _ _ w.heap.size 33 #[.string r1, .string r2, .bool r3] (0, 0) _ rfl ?_ Try.underlying33 rfl (by kernel_rfl)) rfl ⟨rfl, ?_⟩
              · exact blk_put (blk_put (blk_put HG4.out 0 _ rfl) 1 _ rfl) 2 _ rfl
              · exact below_set (below_set (below_set HB4.out (Nat.le_refl _)) (Nat.le_refl _)) (Nat.le_refl _)
      | false =>
        rw [hl, if_neg (by decide)] at H2
        obtain ⟨hl1, hl2⟩ : (a0.toList == ([38, 38] : List UInt8)) = false ∧ (a0.toList == ([124, 124] : List UInt8)) = false := Bool.or_eq_false_iff.1 hl
        simp only [opers_Bin.no, Option.some.injEq, Prod.mk.injEq] at H2
        obtain ⟨rfl, rfl, rfl, rfl⟩ := H2
        have HG2 := Aside0.mk (at_alloc HG1.out (.cells #[.nilFunc, .slice none 0 0, .string ⟨#[]⟩] 56 (0, 0)))
        have HB2 := Aside0.mk (HB1.out.alloc HB1.out.size (.cells #[.nilFunc, .slice none 0 0, .string ⟨#[]⟩] 56 (0, 0)))
        clear hl
        have g0 := cell_at HG2.out 0
        have g1 := cell_at HG2.out 1
        have g2 := cell_at HG2.out 2
        have f0 := free_at HG2.out 0
        have f1 := free_at HG2.out 1
        have f2 := free_at HG2.out 2
        simp only [List.getElem?_toArray, List.getElem?_cons_zero, List.getElem?_cons_succ] at g0 g1 g2
        go_wp2_with fail
        refine bodyPost_ret (results_ct rfl _ _ w.heap.size 33 #[.string ⟨#[]⟩, .string ⟨#[]⟩, .bool false] (0, 0) _ rfl ?_ Try.underlying33 rfl (by kernel_rfl)) rfl ⟨rfl, ?_⟩
        · exact blk_put (blk_put (blk_put HG2.out 0 _ rfl) 1 _ rfl) 2 _ rfl
        · exact below_set (below_set (below_set HB2.out (Nat.le_refl _)) (Nat.le_refl _)) (Nat.le_refl _)
  | some x =>
    obtain ⟨Fx, lx, rx⟩ := x
    have HF2 := HF.out
    rw [ht] at HF2
    simp only at HF2
    obtain ⟨ix, Ax, cx, hfi, hcx, hC⟩ := HF2
    rw [hfi] at hlk0
    simp only at hlk0
    have H2 := H.out
    rw [ht] at H2
    simp only at H2
    obtain ⟨he1, he2, hl1, hl2⟩ := opers_Bin.alone ht
    have HC1 := Aside0.mk hC
    obtain ⟨t1, ht1, H2⟩ := Option.bind_eq_some_iff.1 H2
    have HT1 := Aside0.mk ht1
    have H := Aside0.mk H2
    clear HF ht ht1 H2 hfi hC
    go_wp2_with fail
    refine (words_Type.calls a1 t1 _ HT1.out).mono ?_
    rintro e w2 ⟨rfl, hb2⟩
    have HB2 := Aside0.mk ((HB1.out.alloc HB1.out.size (.cells #[.func (.func Fx) #[] #[], .slice Ax lx.length cx, .string rx] 56 (0, 0))).trans (hb2.mono (by have := HB1.out.size; simp; omega)))
    have HG2 := Aside0.mk ((hb2.block _ (lt_of_at (at_alloc HG1.out (.cells #[.func (.func Fx) #[] #[], .slice Ax lx.length cx, .string rx] 56 (0, 0))))).trans (at_alloc HG1.out (.cells #[.func (.func Fx) #[] #[], .slice Ax lx.length cx, .string rx] 56 (0, 0))))
    have HO2 := Aside0.mk ((hb2.block _ (by simp)).trans (at_new w1 (.cells #[.func (.func Fx) #[] #[], .slice Ax lx.length cx, .string rx] 56 (0, 0)) rfl))
    have HC2 := Aside0.mk (Kd.C_below (Kd.C_below HC1.out ((Below.refl _ _).alloc (Nat.le_refl _) (.cells #[.func (.func Fx) #[] #[], .slice Ax lx.length cx, .string rx] 56 (0, 0)))) hb2)
    clear hb2 HB1 HG1 HC1
    cases t1 with
    | false =>
      have h := H.out
      rw [if_neg (by decide)] at h
      have H := Aside0.mk h
      clear h
      have h := H.out
      simp only [opers_Bin.no, Option.some.injEq, Prod.mk.injEq] at h
      obtain ⟨rfl, rfl, rfl, rfl⟩ := h
      have g0 := cell_at HG2.out 0
      have g1 := cell_at HG2.out 1
      have g2 := cell_at HG2.out 2
      have f0 := free_at HG2.out 0
      have f1 := free_at HG2.out 1
      have f2 := free_at HG2.out 2
      simp only [List.getElem?_toArray, List.getElem?_cons_zero, List.getElem?_cons_succ] at g0 g1 g2
      go_wp2_with fail
      refine bodyPost_ret (results_ct rfl _ _ w.heap.size 33 #[.string ⟨#[]⟩, .string ⟨#[]⟩, .bool false] (0, 0) _ rfl ?_ Try.underlying33 rfl (by kernel_rfl)) rfl ⟨rfl, ?_⟩
      · exact blk_put (blk_put (blk_put HG2.out 0 _ rfl) 1 _ rfl) 2 _ rfl
      · exact below_set (below_set (below_set HB2.out (Nat.le_refl _)) (Nat.le_refl _)) (Nat.le_refl _)
    | true =>
      have h := H.out
      rw [if_pos rfl] at h
      obtain ⟨t2, ht2, h⟩ := Option.bind_eq_some_iff.1 h
      have HT2 := Aside0.mk ht2
      have H := Aside0.mk h
      clear h ht2
      go_wp2_with fail
      refine (words_Type.calls a2 t2 _ HT2.out).mono ?_
      rintro e w3 ⟨rfl, hb3⟩
      have HB3 := Aside0.mk (HB2.out.trans (hb3.mono HB2.out.size))
      have HG3 := Aside0.mk ((hb3.block _ (lt_of_at HG2.out)).trans HG2.out)
      have HO3 := Aside0.mk ((hb3.block _ (lt_of_at HO2.out)).trans HO2.out)
      have HC3 := Aside0.mk (Kd.C_below HC2.out hb3)
      clear hb3 HB2 HG2 HO2 HC2
      cases t2 with
      | false =>
        have h := H.out
        rw [if_neg (by decide)] at h
        have H := Aside0.mk h
        clear h
        have h := H.out
        simp only [opers_Bin.no, Option.some.injEq, Prod.mk.injEq] at h
        obtain ⟨rfl, rfl, rfl, rfl⟩ := h
        have g0 := cell_at HG3.out 0
        have g1 := cell_at HG3.out 1
        have g2 := cell_at HG3.out 2
        have f0 := free_at HG3.out 0
        have f1 := free_at HG3.out 1
        have f2 := free_at HG3.out 2
        simp only [List.getElem?_toArray, List.getElem?_cons_zero, List.getElem?_cons_succ] at g0 g1 g2
        go_wp2_with fail
        refine bodyPost_ret (results_ct rfl _ _ w.heap.size 33 #[.string ⟨#[]⟩, .string ⟨#[]⟩, .bool false] (0, 0) _ rfl ?_ Try.underlying33 rfl (by kernel_rfl)) rfl ⟨rfl, ?_⟩
        · exact blk_put (blk_put (blk_put HG3.out 0 _ rfl) 1 _ rfl) 2 _ rfl
        · exact below_set (below_set (below_set HB3.out (Nat.le_refl _)) (Nat.le_refl _)) (Nat.le_refl _)
      | true =>
        have h := H.out
        rw [if_pos rfl] at h
        obtain ⟨m1, hm1, h⟩ := Option.bind_eq_some_iff.1 h
        have HM1 := Aside0.mk hm1
        have H := Aside0.mk h
        clear h hm1
        have o0 := cell_at HO3.out 0
        have o1 := cell_at HO3.out 1
        have o2 := cell_at HO3.out 2
        simp only [List.getElem?_toArray, List.getElem?_cons_zero, List.getElem?_cons_succ] at o0 o1 o2
        go_wp2_with fail
        refine (slices_Contains_string_string.calls Ax cx lx a1 m1 _ HC3.out hcx HM1.out).mono ?_
        rintro e w4 ⟨rfl, hb4⟩
        obtain ⟨k4, rfl⟩ := hb4
        have HB4 := Aside0.mk (pw_below_drewN HB3.out k4)
        have HG4 := Aside0.mk (show (w3.drewN k4).heap[w.heap.size]? = _ from HG3.out)
        have HC4 := Aside0.mk (show Kd.C Kd.string (w3.drewN k4) Ax lx.length lx from Kd.C_drewN HC3.out k4)
        clear HB3 HG3 HC3
        cases m1 with
        | true =>
          cases e1 : (a2.toList == a1.toList) with
          | true =>
            have h := H.out
            rw [e1, if_pos (by simp)] at h
            have H := Aside0.mk h
            clear h
            have h := H.out
            simp only [Option.some.injEq] at h
            have h4 : r4 = 0 := by rw [← show (opers_Bin.told rx a1).2.2.2 = r4 by rw [h]]; rfl
            subst h4
            have hc := opers_Bin.told_calls Fx Ax lx.length cx rx a1
            rw [h] at hc
            simp only at hc
            have HCT := Aside0.mk hc
            clear h hc
            go_wp2_with fail
            refine (HCT.out _).mono ?_
            rintro e w5 ⟨rfl, hb5⟩
            have HB5 := Aside0.mk (HB4.out.trans (hb5.mono HB4.out.size))
            have HG5 := Aside0.mk ((hb5.block _ (lt_of_at HG4.out)).trans HG4.out)
            clear hb5 HB4 HG4
            have g0 := cell_at HG5.out 0
            have g1 := cell_at HG5.out 1
            have g2 := cell_at HG5.out 2
            have f0 := free_at HG5.out 0
            have f1 := free_at HG5.out 1
            have f2 := free_at HG5.out 2
            simp only [List.getElem?_toArray, List.getElem?_cons_zero, List.getElem?_cons_succ] at g0 g1 g2
            go_wp2_with fail
            refine bodyPost_ret (results_ct rfl _ _ w.heap.size 33 #[.string r1, .string r2, .bool r3] (0, 0) _ rfl ?_ Try.underlying33 rfl (by kernel_rfl)) rfl ⟨rfl, ?_⟩
            · exact blk_put (blk_put (blk_put HG5.out 0 _ rfl) 1 _ rfl) 2 _ rfl
            · exact below_set (below_set (below_set HB5.out (Nat.le_refl _)) (Nat.le_refl _)) (Nat.le_refl _)
          | false =>
            cases e2 : (a2.toList == ([63] : List UInt8)) with
            | true =>
              have h := H.out
              rw [e1, e2, if_pos (by simp)] at h
              have H := Aside0.mk h
              clear h
              have h := H.out
              simp only [Option.some.injEq] at h
              have h4 : r4 = 0 := by rw [← show (opers_Bin.told rx a1).2.2.2 = r4 by rw [h]]; rfl
              subst h4
              have hc := opers_Bin.told_calls Fx Ax lx.length cx rx a1
              rw [h] at hc
              simp only at hc
              have HCT := Aside0.mk hc
              clear h hc
              go_wp2_with fail
              refine (HCT.out _).mono ?_
              rintro e w5 ⟨rfl, hb5⟩
              have HB5 := Aside0.mk (HB4.out.trans (hb5.mono HB4.out.size))
              have HG5 := Aside0.mk ((hb5.block _ (lt_of_at HG4.out)).trans HG4.out)
              clear hb5 HB4 HG4
              have g0 := cell_at HG5.out 0
              have g1 := cell_at HG5.out 1
              have g2 := cell_at HG5.out 2
              have f0 := free_at HG5.out 0
              have f1 := free_at HG5.out 1
              have f2 := free_at HG5.out 2
              simp only [List.getElem?_toArray, List.getElem?_cons_zero, List.getElem?_cons_succ] at g0 g1 g2
              go_wp2_with fail
              refine bodyPost_ret (results_ct rfl _ _ w.heap.size 33 #[.string r1, .string r2, .bool r3] (0, 0) _ rfl ?_ Try.underlying33 rfl (by kernel_rfl)) rfl ⟨rfl, ?_⟩
              · exact blk_put (blk_put (blk_put HG5.out 0 _ rfl) 1 _ rfl) 2 _ rfl
              · exact below_set (below_set (below_set HB5.out (Nat.le_refl _)) (Nat.le_refl _)) (Nat.le_refl _)
            | false =>
              have h := H.out
              rw [e1, e2, if_neg (by simp)] at h
              have H := Aside0.mk h
              clear h
              cases e3 : (a1.toList == ([63] : List UInt8)) with
              | false =>
                have h := H.out
                rw [e3, if_neg (by decide)] at h
                have H := Aside0.mk h
                clear h
                have h := H.out
                simp only [opers_Bin.no, Option.some.injEq, Prod.mk.injEq] at h
                obtain ⟨rfl, rfl, rfl, rfl⟩ := h
                have g0 := cell_at HG4.out 0
                have g1 := cell_at HG4.out 1
                have g2 := cell_at HG4.out 2
                have f0 := free_at HG4.out 0
                have f1 := free_at HG4.out 1
                have f2 := free_at HG4.out 2
                simp only [List.getElem?_toArray, List.getElem?_cons_zero, List.getElem?_cons_succ] at g0 g1 g2
                go_wp2_with fail
                refine bodyPost_ret (results_ct rfl _ _ w.heap.size 33 #[.string ⟨#[]⟩, .string ⟨#[]⟩, .bool false] (0, 0) _ rfl ?_ Try.underlying33 rfl (by kernel_rfl)) rfl ⟨rfl, ?_⟩
                · exact blk_put (blk_put (blk_put HG4.out 0 _ rfl) 1 _ rfl) 2 _ rfl
                · exact below_set (below_set (below_set HB4.out (Nat.le_refl _)) (Nat.le_refl _)) (Nat.le_refl _)
              | true =>
                have h := H.out
                rw [e3, if_pos rfl] at h
                rw [if_neg (by decide)] at h
                obtain ⟨m2, hm2, h⟩ := Option.bind_eq_some_iff.1 h
                have HM2 := Aside0.mk hm2
                have H := Aside0.mk h
                clear h hm2
                go_wp2_with fail
                refine (slices_Contains_string_string.calls Ax cx lx a2 m2 _ HC4.out hcx HM2.out).mono ?_
                rintro e w6 ⟨rfl, hb6⟩
                obtain ⟨k6, rfl⟩ := hb6
                replace HB4 := Aside0.mk (show Below w.heap.size w (w3.drewN (k4 + k6)) by simpa using pw_below_drewN HB4.out k6)
                replace HG4 := Aside0.mk (show (w3.drewN (k4 + k6)).heap[w.heap.size]? = _ from HG4.out)
                cases m2 with
                | true =>
                  have h := H.out
                  rw [if_pos rfl] at h
                  have H := Aside0.mk h
                  clear h
                  have h := H.out
                  simp only [Option.some.injEq] at h
                  have h4 : r4 = 0 := by rw [← show (opers_Bin.told rx a2).2.2.2 = r4 by rw [h]]; rfl
                  subst h4
                  have hc := opers_Bin.told_calls Fx Ax lx.length cx rx a2
                  rw [h] at hc
                  simp only at hc
                  have HCT := Aside0.mk hc
                  clear h hc
                  go_wp2_with fail
                  refine (HCT.out _).mono ?_
                  rintro e w5 ⟨rfl, hb5⟩
                  have HB5 := Aside0.mk (HB4.out.trans (hb5.mono HB4.out.size))
                  have HG5 := Aside0.mk ((hb5.block _ (lt_of_at HG4.out)).trans HG4.out)
                  clear hb5 HB4 HG4
                  have g0 := cell_at HG5.out 0
                  have g1 := cell_at HG5.out 1
                  have g2 := cell_at HG5.out 2
                  have f0 := free_at HG5.out 0
                  have f1 := free_at HG5.out 1
                  have f2 := free_at HG5.out 2
                  simp only [List.getElem?_toArray, List.getElem?_cons_zero, List.getElem?_cons_succ] at g0 g1 g2
                  go_wp2_with fail
                  refine bodyPost_ret (results_ct rfl _ _ w.heap.size 33 #[.string r1, .string r2, .bool r3] (0, 0) _ rfl ?_ Try.underlying33 rfl (by kernel_rfl)) rfl ⟨rfl, ?_⟩
                  · exact blk_put (blk_put (blk_put HG5.out 0 _ rfl) 1 _ rfl) 2 _ rfl
                  · exact below_set (below_set (below_set HB5.out (Nat.le_refl _)) (Nat.le_refl _)) (Nat.le_refl _)
                | false =>
                  have h := H.out
                  rw [if_neg (by decide)] at h
                  have H := Aside0.mk h
                  clear h
                  have h := H.out
                  simp only [opers_Bin.no, Option.some.injEq, Prod.mk.injEq] at h
                  obtain ⟨rfl, rfl, rfl, rfl⟩ := h
                  have g0 := cell_at HG4.out 0
                  have g1 := cell_at HG4.out 1
                  have g2 := cell_at HG4.out 2
                  have f0 := free_at HG4.out 0
                  have f1 := free_at HG4.out 1
                  have f2 := free_at HG4.out 2
                  simp only [List.getElem?_toArray, List.getElem?_cons_zero, List.getElem?_cons_succ] at g0 g1 g2
                  go_wp2_with fail
                  refine bodyPost_ret (results_ct rfl _ _ w.heap.size 33 #[.string ⟨#[]⟩, .string ⟨#[]⟩, .bool false] (0, 0) _ rfl ?_ Try.underlying33 rfl (by kernel_rfl)) rfl ⟨rfl, ?_⟩
                  · exact blk_put (blk_put (blk_put HG4.out 0 _ rfl) 1 _ rfl) 2 _ rfl
                  · exact below_set (below_set (below_set HB4.out (Nat.le_refl _)) (Nat.le_refl _)) (Nat.le_refl _)
        | false =>
          have h := H.out
          rw [Bool.false_and, if_neg (by decide)] at h
          have H := Aside0.mk h
          clear h
          cases e3 : (a1.toList == ([63] : List UInt8)) with
          | false =>
            have h := H.out
            rw [e3, if_neg (by decide)] at h
            have H := Aside0.mk h
            clear h
            have h := H.out
            simp only [opers_Bin.no, Option.some.injEq, Prod.mk.injEq] at h
            obtain ⟨rfl, rfl, rfl, rfl⟩ := h
            have g0 := cell_at HG4.out 0
            have g1 := cell_at HG4.out 1
            have g2 := cell_at HG4.out 2
            have f0 := free_at HG4.out 0
            have f1 := free_at HG4.out 1
            have f2 := free_at HG4.out 2
            simp only [List.getElem?_toArray, List.getElem?_cons_zero, List.getElem?_cons_succ] at g0 g1 g2
            go_wp2_with fail
            refine bodyPost_ret (results_ct rfl _ _ w.heap.size 33 #[.string ⟨#[]⟩, .string ⟨#[]⟩, .bool false] (0, 0) _ rfl ?_ Try.underlying33 rfl (by kernel_rfl)) rfl ⟨rfl, ?_⟩
            · exact blk_put (blk_put (blk_put HG4.out 0 _ rfl) 1 _ rfl) 2 _ rfl
            · exact below_set (below_set (below_set HB4.out (Nat.le_refl _)) (Nat.le_refl _)) (Nat.le_refl _)
          | true =>
            have h := H.out
            rw [e3, if_pos rfl] at h
            cases e2 : (a2.toList == ([63] : List UInt8)) with
            | true =>
              rw [e2, if_pos rfl] at h
              have H := Aside0.mk h
              clear h
              have h := H.out
              simp only [Option.some.injEq] at h
              have h4 : r4 = 0 := by rw [← show (opers_Bin.told rx a2).2.2.2 = r4 by rw [h]]; rfl
              subst h4
              have hc := opers_Bin.told_calls Fx Ax lx.length cx rx a2
              rw [h] at hc
              simp only at hc
              have HCT := Aside0.mk hc
              clear h hc
              go_wp2_with fail
              refine (HCT.out _).mono ?_
              rintro e w5 ⟨rfl, hb5⟩
              have HB5 := Aside0.mk (HB4.out.trans (hb5.mono HB4.out.size))
              have HG5 := Aside0.mk ((hb5.block _ (lt_of_at HG4.out)).trans HG4.out)
              clear hb5 HB4 HG4
              have g0 := cell_at HG5.out 0
              have g1 := cell_at HG5.out 1
              have g2 := cell_at HG5.out 2
              have f0 := free_at HG5.out 0
              have f1 := free_at HG5.out 1
              have f2 := free_at HG5.out 2
              simp only [List.getElem?_toArray, List.getElem?_cons_zero, List.getElem?_cons_succ] at g0 g1 g2
              go_wp2_with fail
              refine bodyPost_ret (results_ct rfl _ _ w.heap.size 33 #[.string r1, .string r2, .bool r3] (0, 0) _ rfl ?_ Try.underlying33 rfl (by kernel_rfl)) rfl ⟨rfl, ?_⟩
              · exact blk_put (blk_put (blk_put HG5.out 0 _ rfl) 1 _ rfl) 2 _ rfl
              · exact below_set (below_set (below_set HB5.out (Nat.le_refl _)) (Nat.le_refl _)) (Nat.le_refl _)
            | false =>
              rw [e2, if_neg (by decide)] at h
              obtain ⟨m2, hm2, h⟩ := Option.bind_eq_some_iff.1 h
              have HM2 := Aside0.mk hm2
              have H := Aside0.mk h
              clear h hm2
              go_wp2_with fail
              refine (slices_Contains_string_string.calls Ax cx lx a2 m2 _ HC4.out hcx HM2.out).mono ?_
              rintro e w6 ⟨rfl, hb6⟩
              obtain ⟨k6, rfl⟩ := hb6
              replace HB4 := Aside0.mk (show Below w.heap.size w (w3.drewN (k4 + k6)) by simpa using pw_below_drewN HB4.out k6)
              replace HG4 := Aside0.mk (show (w3.drewN (k4 + k6)).heap[w.heap.size]? = _ from HG4.out)
              cases m2 with
              | true =>
                have h := H.out
                rw [if_pos rfl] at h
                have H := Aside0.mk h
                clear h
                have h := H.out
                simp only [Option.some.injEq] at h
                have h4 : r4 = 0 := by rw [← show (opers_Bin.told rx a2).2.2.2 = r4 by rw [h]]; rfl
                subst h4
                have hc := opers_Bin.told_calls Fx Ax lx.length cx rx a2
                rw [h] at hc
                simp only at hc
                have HCT := Aside0.mk hc
                clear h hc
                go_wp2_with fail
                refine (HCT.out _).mono ?_
                rintro e w5 ⟨rfl, hb5⟩
                have HB5 := Aside0.mk (HB4.out.trans (hb5.mono HB4.out.size))
                have HG5 := Aside0.mk ((hb5.block _ (lt_of_at HG4.out)).trans HG4.out)
                clear hb5 HB4 HG4
                have g0 := cell_at HG5.out 0
                have g1 := cell_at HG5.out 1
                have g2 := cell_at HG5.out 2
                have f0 := free_at HG5.out 0
                have f1 := free_at HG5.out 1
                have f2 := free_at HG5.out 2
                simp only [List.getElem?_toArray, List.getElem?_cons_zero, List.getElem?_cons_succ] at g0 g1 g2
                go_wp2_with fail
                refine bodyPost_ret (results_ct rfl _ _ w.heap.size 33 #[.string r1, .string r2, .bool r3] (0, 0) _ rfl ?_ Try.underlying33 rfl (by kernel_rfl)) rfl ⟨rfl, ?_⟩
                · exact blk_put (blk_put (blk_put HG5.out 0 _ rfl) 1 _ rfl) 2 _ rfl
                · exact below_set (below_set (below_set HB5.out (Nat.le_refl _)) (Nat.le_refl _)) (Nat.le_refl _)
              | false =>
                have h := H.out
                rw [if_neg (by decide)] at h
                have H := Aside0.mk h
                clear h
                have h := H.out
                simp only [opers_Bin.no, Option.some.injEq, Prod.mk.injEq] at h
                obtain ⟨rfl, rfl, rfl, rfl⟩ := h
                have g0 := cell_at HG4.out 0
                have g1 := cell_at HG4.out 1
                have g2 := cell_at HG4.out 2
                have f0 := free_at HG4.out 0
                have f1 := free_at HG4.out 1
                have f2 := free_at HG4.out 2
                simp only [List.getElem?_toArray, List.getElem?_cons_zero, List.getElem?_cons_succ] at g0 g1 g2
                go_wp2_with fail
                refine bodyPost_ret (results_ct rfl _ _ w.heap.size 33 #[.string ⟨#[]⟩, .string ⟨#[]⟩, .bool false] (0, 0) _ rfl ?_ Try.underlying33 rfl (by kernel_rfl)) rfl ⟨rfl, ?_⟩
                · exact blk_put (blk_put (blk_put HG4.out 0 _ rfl) 1 _ rfl) 2 _ rfl
                · exact below_set (below_set (below_set HB4.out (Nat.le_refl _)) (Nat.le_refl _)) (Nat.le_refl _)

end Go.Proofs.Ytnefifgfpljlkaa.PAll
