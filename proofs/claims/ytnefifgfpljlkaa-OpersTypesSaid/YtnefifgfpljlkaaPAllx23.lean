-- WRITTEN BY hand.py of this session, over the kit's print: a text of this seat
import Derived.Test.YtnefifgfpljlkaaPAllm0
import Derived.Test.YtnefifgfpljlkaaPAllx18
import Derived.Test.YtnefifgfpljlkaaPAllx21
import Derived.Test.YtnefifgfpljlkaaPAllx22
namespace Go.Proofs.Ytnefifgfpljlkaa.PAll
open Go.RowKit Go.Proofs.YtnefifgfpljlkaaW.PrintWords Go.Proofs.YtnefifgfpljlkaaW.PrintLast Go.Proofs.YtnefifgfpljlkaaW.PrintMore
attribute [local go_sem] max2_int min2_int max_two min_two max_three min_three max_four min_four   -- for this text's walks alone
set_option linter.unusedVariables false
set_option linter.unusedSimpArgs false

/-! ### chaperonref15_Bin: function 12 -/
def chaperonref15_Bin.eq (s : ByteArray) : Bool := s.toList == ([61, 61] : List UInt8) || s.toList == ([33, 61] : List UInt8)
def chaperonref15_Bin.lg (s : ByteArray) : Bool := s.toList == ([124, 124] : List UInt8) || s.toList == ([38, 38] : List UInt8)
def chaperonref15_Bin.lt (s : ByteArray) : Bool := s.toList == ([60] : List UInt8) || s.toList == ([60, 61] : List UInt8)
def chaperonref15_Bin.told (op s : ByteArray) (d : Bool) : ByteArray × ByteArray × Bool × Int := (s, if chaperonref15_Bin.lt op = true then ⟨#[98, 111, 111, 108]⟩ else s, d, 0)
def chaperonref15_Bin.no (e : Int) : ByteArray × ByteArray × Bool × Int := (⟨#[]⟩, ⟨#[]⟩, false, e)
def chaperonref15_Bin.f (k : Nat) (a0 : ByteArray) (a1 : ByteArray) (a2 : ByteArray) : Option (ByteArray × ByteArray × Bool × Int) :=
 (chaperonref15_among.f k a0 [⟨#[124, 124]⟩, ⟨#[38, 38]⟩, ⟨#[61, 61]⟩, ⟨#[33, 61]⟩, ⟨#[60]⟩, ⟨#[60, 61]⟩, ⟨#[43]⟩, ⟨#[45]⟩, ⟨#[42]⟩, ⟨#[47]⟩, ⟨#[37]⟩]).bind fun t => if t = true then (chaperonref04_Type.f k a1).bind fun t1 => if t1 = true then (chaperonref04_Type.f k a2).bind fun t2 => if t2 = true then
  (if chaperonref15_Bin.eq a0 = true then some (⟨#[]⟩, ⟨#[98, 111, 111, 108]⟩, false, 0)
     else if chaperonref15_Bin.lg a0 = true then (chaperonref15_among.f k a1 [⟨#[98, 111, 111, 108]⟩, ⟨#[63]⟩]).bind fun b1 => if b1 = true then (chaperonref15_among.f k a2 [⟨#[98, 111, 111, 108]⟩, ⟨#[63]⟩]).bind fun b2 => if b2 = true then some (⟨#[98, 111, 111, 108]⟩, ⟨#[98, 111, 111, 108]⟩, false, 0) else some (chaperonref15_Bin.no 7) else some (chaperonref15_Bin.no 7)
     else (chaperonref15_takes.f k a0 a1).bind fun m1 =>
       if (m1 && (a2.toList == a1.toList || a2.toList == ([63] : List UInt8))) = true then some (chaperonref15_Bin.told a0 a1 false)
       else if (a1.toList == ([63] : List UInt8)) = true then
         (chaperonref15_takes.f k a0 a2).bind fun m2 => if m2 = true then some (chaperonref15_Bin.told a0 a2 false) else if (a2.toList == ([63] : List UInt8)) = true then some (chaperonref15_Bin.told a0 ⟨#[63]⟩ true) else some (chaperonref15_Bin.no 7)
       else some (chaperonref15_Bin.no 7))
  else some (chaperonref15_Bin.no 7) else some (chaperonref15_Bin.no 7) else some (chaperonref15_Bin.no 2)
theorem chaperonref15_Bin.mono : ∀ a0 a1 a2 k, LeO (chaperonref15_Bin.f k a0 a1 a2) (chaperonref15_Bin.f (k + 1) a0 a1 a2) := by
 intro a0 a1 a2 k
 unfold chaperonref15_Bin.f
 repeat' first
   | (with_reducible exact chaperonref04_Type.mono _ _)
   | (with_reducible exact chaperonref15_among.mono _ _ _)
   | (with_reducible exact chaperonref15_takes.mono _ _ _)
   | (with_reducible exact LeO.refl _)
   | (with_reducible refine LeO.ite ?_ ?_)
   | (with_reducible refine LeO.bind ?_ (fun _ => ?_))
theorem chaperonref15_Bin.or_cases {a b : Bool} (h : (a || b) = true) : a = true ∨ (a = false ∧ b = true) := by cases a <;> simp_all
open Go.Proofs.YtnefifgfpljlkaaRF Go.Proofs.YtnefifgfpljlkaaRG in
set_option maxHeartbeats 8000000 in
set_option maxRecDepth 100000 in
theorem chaperonref15_Bin.calls (k : Nat) (a0 : ByteArray) (a1 : ByteArray) (a2 : ByteArray) (r1 : ByteArray) (r2 : ByteArray) (r3 : Bool) (r4 : Int) (w : World) (h : chaperonref15_Bin.f k a0 a1 a2 = some (r1, r2, r3, r4)) :
  Calls Try.prog 12 #[.string a0, .string a1, .string a2] w fun e w' => e = .returned (.tuple #[.agg #[.string r1, .string r2, .bool r3], .int .i64 r4]) ∧ Below w.heap.size w w' := by
 unfold chaperonref15_Bin.f at h
 have hu := Try.underlying33
 have l_dyn : (⟨#[63]⟩ : ByteArray).toList = [63] := Go.Proofs.YtnefifgfpljlkaaOpers.lit _
 obtain ⟨t, hA, h⟩ := Option.bind_eq_some_iff.1 h
 have HA := Aside0.mk hA
 have H := Aside0.mk h
 clear hA h
 go_enter Try.func12, Try.ntmps12
 go_wp2_with fail
 refine (chaperonref15_among.calls k a0 (some ⟨w.heap.size + 1, 0, none⟩) 11 [⟨#[124, 124]⟩, ⟨#[38, 38]⟩, ⟨#[61, 61]⟩, ⟨#[33, 61]⟩, ⟨#[60]⟩, ⟨#[60, 61]⟩, ⟨#[43]⟩, ⟨#[45]⟩, ⟨#[42]⟩, ⟨#[47]⟩, ⟨#[37]⟩] t _ (Go.Proofs.YtnefifgfpljlkaaOpers.C_at (l := [⟨#[124, 124]⟩, ⟨#[38, 38]⟩, ⟨#[61, 61]⟩, ⟨#[33, 61]⟩, ⟨#[60]⟩, ⟨#[60, 61]⟩, ⟨#[43]⟩, ⟨#[45]⟩, ⟨#[42]⟩, ⟨#[47]⟩, ⟨#[37]⟩]) (at_new (w.alloc (.cells #[.string ⟨#[]⟩, .string ⟨#[]⟩, .bool false] 33 (0, 0))) (.cells #[.string ⟨#[124, 124]⟩, .string ⟨#[38, 38]⟩, .string ⟨#[61, 61]⟩, .string ⟨#[33, 61]⟩, .string ⟨#[60]⟩, .string ⟨#[60, 61]⟩, .string ⟨#[43]⟩, .string ⟨#[45]⟩, .string ⟨#[42]⟩, .string ⟨#[47]⟩, .string ⟨#[37]⟩] 9 (0, 0)) (by simp)) (by decide)) (by decide) HA.out).mono ?_
 rintro e w1 ⟨rfl, hb1⟩
 have hb1 := hb1.below
 have HB1 := Aside0.mk ((((Below.refl w.heap.size w).alloc (Nat.le_refl _) (.cells #[.string ⟨#[]⟩, .string ⟨#[]⟩, .bool false] 33 (0, 0))).alloc (by simp) (.cells #[.string ⟨#[124, 124]⟩, .string ⟨#[38, 38]⟩, .string ⟨#[61, 61]⟩, .string ⟨#[33, 61]⟩, .string ⟨#[60]⟩, .string ⟨#[60, 61]⟩, .string ⟨#[43]⟩, .string ⟨#[45]⟩, .string ⟨#[42]⟩, .string ⟨#[47]⟩, .string ⟨#[37]⟩] 9 (0, 0))).trans (hb1.mono (by simp; omega)))
 have HG1 := Aside0.mk ((hb1.block w.heap.size (by simp; omega)).trans (at_alloc (at_new w (.cells #[.string ⟨#[]⟩, .string ⟨#[]⟩, .bool false] 33 (0, 0)) rfl) (.cells #[.string ⟨#[124, 124]⟩, .string ⟨#[38, 38]⟩, .string ⟨#[61, 61]⟩, .string ⟨#[33, 61]⟩, .string ⟨#[60]⟩, .string ⟨#[60, 61]⟩, .string ⟨#[43]⟩, .string ⟨#[45]⟩, .string ⟨#[42]⟩, .string ⟨#[47]⟩, .string ⟨#[37]⟩] 9 (0, 0))))
 clear hb1
 cases t with
 | false =>
  have h := H.out
  rw [if_neg (by decide)] at h
  have H := Aside0.mk h
  clear h
  have h := H.out
  simp only [chaperonref15_Bin.no, Option.some.injEq, Prod.mk.injEq] at h
  obtain ⟨rfl, rfl, rfl, rfl⟩ := h
  have g0 := cell_at HG1.out 0
  have f0 := free_at HG1.out 0
  have g1 := cell_at HG1.out 1
  have f1 := free_at HG1.out 1
  have g2 := cell_at HG1.out 2
  have f2 := free_at HG1.out 2
  simp only [List.getElem?_toArray, List.getElem?_cons_zero, List.getElem?_cons_succ] at g0 g1 g2
  go_wp2_with fail
  refine bodyPost_ret (results_ct rfl _ _ w.heap.size 33 #[.string ⟨#[]⟩, .string ⟨#[]⟩, .bool false] (0, 0) _ rfl ?_ Try.underlying33 rfl (by kernel_rfl)) rfl ⟨rfl, ?_⟩
  ·
   exact blk_put (blk_put (blk_put HG1.out 0 _ rfl) 1 _ rfl) 2 _ rfl
  ·
   exact below_set (below_set (below_set HB1.out (Nat.le_refl _)) (Nat.le_refl _)) (Nat.le_refl _)
 | true =>
  have h := H.out
  rw [if_pos rfl] at h
  obtain ⟨t1, ht_, h⟩ := Option.bind_eq_some_iff.1 h
  have HT_ := Aside0.mk ht_
  have H := Aside0.mk h
  clear ht_ h
  go_wp2_with fail
  refine (chaperonref04_Type.calls k a1 t1 _ HT_.out).mono ?_
  rintro e w2 ⟨rfl, hb⟩
  have HB2 := Aside0.mk (HB1.out.trans (hb.mono HB1.out.size))
  have HG2 := Aside0.mk ((hb.block _ (lt_of_at HG1.out)).trans HG1.out)
  clear hb HB1 HG1
  cases t1 with
  | false =>
   have h := H.out
   rw [if_neg (by decide)] at h
   have H := Aside0.mk h
   clear h
   have h := H.out
   simp only [chaperonref15_Bin.no, Option.some.injEq, Prod.mk.injEq] at h
   obtain ⟨rfl, rfl, rfl, rfl⟩ := h
   have g0 := cell_at HG2.out 0
   have f0 := free_at HG2.out 0
   have g1 := cell_at HG2.out 1
   have f1 := free_at HG2.out 1
   have g2 := cell_at HG2.out 2
   have f2 := free_at HG2.out 2
   simp only [List.getElem?_toArray, List.getElem?_cons_zero, List.getElem?_cons_succ] at g0 g1 g2
   go_wp2_with fail
   refine bodyPost_ret (results_ct rfl _ _ w.heap.size 33 #[.string ⟨#[]⟩, .string ⟨#[]⟩, .bool false] (0, 0) _ rfl ?_ Try.underlying33 rfl (by kernel_rfl)) rfl ⟨rfl, ?_⟩
   ·
    exact blk_put (blk_put (blk_put HG2.out 0 _ rfl) 1 _ rfl) 2 _ rfl
   ·
    exact below_set (below_set (below_set HB2.out (Nat.le_refl _)) (Nat.le_refl _)) (Nat.le_refl _)
  | true =>
   have h := H.out
   rw [if_pos rfl] at h
   obtain ⟨t2, ht_, h⟩ := Option.bind_eq_some_iff.1 h
   have HT_ := Aside0.mk ht_
   have H := Aside0.mk h
   clear ht_ h
   go_wp2_with fail
   refine (chaperonref04_Type.calls k a2 t2 _ HT_.out).mono ?_
   rintro e w3 ⟨rfl, hb⟩
   have HB3 := Aside0.mk (HB2.out.trans (hb.mono HB2.out.size))
   have HG3 := Aside0.mk ((hb.block _ (lt_of_at HG2.out)).trans HG2.out)
   clear hb HB2 HG2
   cases t2 with
   | false =>
    have h := H.out
    rw [if_neg (by decide)] at h
    have H := Aside0.mk h
    clear h
    have h := H.out
    simp only [chaperonref15_Bin.no, Option.some.injEq, Prod.mk.injEq] at h
    obtain ⟨rfl, rfl, rfl, rfl⟩ := h
    have g0 := cell_at HG3.out 0
    have f0 := free_at HG3.out 0
    have g1 := cell_at HG3.out 1
    have f1 := free_at HG3.out 1
    have g2 := cell_at HG3.out 2
    have f2 := free_at HG3.out 2
    simp only [List.getElem?_toArray, List.getElem?_cons_zero, List.getElem?_cons_succ] at g0 g1 g2
    go_wp2_with fail
    refine bodyPost_ret (results_ct rfl _ _ w.heap.size 33 #[.string ⟨#[]⟩, .string ⟨#[]⟩, .bool false] (0, 0) _ rfl ?_ Try.underlying33 rfl (by kernel_rfl)) rfl ⟨rfl, ?_⟩
    ·
     exact blk_put (blk_put (blk_put HG3.out 0 _ rfl) 1 _ rfl) 2 _ rfl
    ·
     exact below_set (below_set (below_set HB3.out (Nat.le_refl _)) (Nat.le_refl _)) (Nat.le_refl _)
   | true =>
    have h := H.out
    rw [if_pos rfl] at h
    cases he : chaperonref15_Bin.eq a0 with
    | true =>
     rw [he, if_pos rfl] at h
     simp only [Option.some.injEq, Prod.mk.injEq] at h
     obtain ⟨rfl, rfl, rfl, rfl⟩ := h
     rcases chaperonref15_Bin.or_cases he with he1 | ⟨he1, he2⟩
     all_goals
      clear he
      have g0 := cell_at HG3.out 0
      have f0 := free_at HG3.out 0
      have g1 := cell_at HG3.out 1
      have f1 := free_at HG3.out 1
      have g2 := cell_at HG3.out 2
      have f2 := free_at HG3.out 2
      simp only [List.getElem?_toArray, List.getElem?_cons_zero, List.getElem?_cons_succ] at g0 g1 g2
      go_wp2_with fail
      refine bodyPost_ret (results_ct rfl _ _ w.heap.size 33 #[.string ⟨#[]⟩, .string ⟨#[98, 111, 111, 108]⟩, .bool false] (0, 0) _ rfl ?_ Try.underlying33 rfl (by kernel_rfl)) rfl ⟨rfl, ?_⟩
      ·
       exact blk_put (blk_put (blk_put HG3.out 0 _ rfl) 1 _ rfl) 2 _ rfl
      ·
       exact below_set (below_set (below_set HB3.out (Nat.le_refl _)) (Nat.le_refl _)) (Nat.le_refl _)
    | false =>
     rw [he, if_neg (by decide)] at h
     obtain ⟨he1, he2⟩ := Bool.or_eq_false_iff.1 he
     clear he
     cases hl : chaperonref15_Bin.lg a0 with
     | true =>
      rw [hl, if_pos rfl] at h
      have HL := Aside0.mk hl
      rcases chaperonref15_Bin.or_cases hl with hl1 | ⟨hl1, hl2⟩
      all_goals
       clear hl
       obtain ⟨b1, hb_, h⟩ := Option.bind_eq_some_iff.1 h
       have HB_ := Aside0.mk hb_
       have H := Aside0.mk h
       clear hb_ h
       go_wp2_with fail
       refine (chaperonref15_among.calls k a1 (some ⟨w3.heap.size, 0, none⟩) 2 [⟨#[98, 111, 111, 108]⟩, ⟨#[63]⟩] b1 _ (Go.Proofs.YtnefifgfpljlkaaOpers.C_at (l := [⟨#[98, 111, 111, 108]⟩, ⟨#[63]⟩]) (at_new w3 (.cells #[.string ⟨#[98, 111, 111, 108]⟩, .string ⟨#[63]⟩] 9 (0, 0)) rfl) (by decide)) (by decide) HB_.out).mono ?_
       rintro e w4 ⟨rfl, hb⟩
       have hb := hb.below
       have HB4 := Aside0.mk ((HB3.out.alloc HB3.out.size (.cells #[.string ⟨#[98, 111, 111, 108]⟩, .string ⟨#[63]⟩] 9 (0, 0))).trans (hb.mono (by have := HB3.out.size; simp; omega)))
       have HG4 := Aside0.mk ((hb.block _ (lt_of_at (at_alloc HG3.out (.cells #[.string ⟨#[98, 111, 111, 108]⟩, .string ⟨#[63]⟩] 9 (0, 0))))).trans (at_alloc HG3.out (.cells #[.string ⟨#[98, 111, 111, 108]⟩, .string ⟨#[63]⟩] 9 (0, 0))))
       clear hb HB3 HG3
       cases b1 with
       | false =>
        have h := H.out
        rw [if_neg (by decide)] at h
        have H := Aside0.mk h
        clear h
        have h := H.out
        simp only [chaperonref15_Bin.no, Option.some.injEq, Prod.mk.injEq] at h
        obtain ⟨rfl, rfl, rfl, rfl⟩ := h
        have g0 := cell_at HG4.out 0
        have f0 := free_at HG4.out 0
        have g1 := cell_at HG4.out 1
        have f1 := free_at HG4.out 1
        have g2 := cell_at HG4.out 2
        have f2 := free_at HG4.out 2
        simp only [List.getElem?_toArray, List.getElem?_cons_zero, List.getElem?_cons_succ] at g0 g1 g2
        go_wp2_with fail
        refine bodyPost_ret (results_ct rfl _ _ w.heap.size 33 #[.string ⟨#[]⟩, .string ⟨#[]⟩, .bool false] (0, 0) _ rfl ?_ Try.underlying33 rfl (by kernel_rfl)) rfl ⟨rfl, ?_⟩
        ·
         exact blk_put (blk_put (blk_put HG4.out 0 _ rfl) 1 _ rfl) 2 _ rfl
        ·
         exact below_set (below_set (below_set HB4.out (Nat.le_refl _)) (Nat.le_refl _)) (Nat.le_refl _)
       | true =>
        have h := H.out
        rw [if_pos rfl] at h
        obtain ⟨b2, hb_, h⟩ := Option.bind_eq_some_iff.1 h
        have HB_ := Aside0.mk hb_
        have H := Aside0.mk h
        clear hb_ h
        go_wp2_with fail
        refine (chaperonref15_among.calls k a2 (some ⟨w4.heap.size, 0, none⟩) 2 [⟨#[98, 111, 111, 108]⟩, ⟨#[63]⟩] b2 _ (Go.Proofs.YtnefifgfpljlkaaOpers.C_at (l := [⟨#[98, 111, 111, 108]⟩, ⟨#[63]⟩]) (at_new w4 (.cells #[.string ⟨#[98, 111, 111, 108]⟩, .string ⟨#[63]⟩] 9 (0, 0)) rfl) (by decide)) (by decide) HB_.out).mono ?_
        rintro e w5 ⟨rfl, hb⟩
        have hb := hb.below
        have HB5 := Aside0.mk ((HB4.out.alloc HB4.out.size (.cells #[.string ⟨#[98, 111, 111, 108]⟩, .string ⟨#[63]⟩] 9 (0, 0))).trans (hb.mono (by have := HB4.out.size; simp; omega)))
        have HG5 := Aside0.mk ((hb.block _ (lt_of_at (at_alloc HG4.out (.cells #[.string ⟨#[98, 111, 111, 108]⟩, .string ⟨#[63]⟩] 9 (0, 0))))).trans (at_alloc HG4.out (.cells #[.string ⟨#[98, 111, 111, 108]⟩, .string ⟨#[63]⟩] 9 (0, 0))))
        clear hb HB4 HG4
        cases b2 with
        | false =>
         have h := H.out
         rw [if_neg (by decide)] at h
         have H := Aside0.mk h
         clear h
         have h := H.out
         simp only [chaperonref15_Bin.no, Option.some.injEq, Prod.mk.injEq] at h
         obtain ⟨rfl, rfl, rfl, rfl⟩ := h
         have g0 := cell_at HG5.out 0
         have f0 := free_at HG5.out 0
         have g1 := cell_at HG5.out 1
         have f1 := free_at HG5.out 1
         have g2 := cell_at HG5.out 2
         have f2 := free_at HG5.out 2
         simp only [List.getElem?_toArray, List.getElem?_cons_zero, List.getElem?_cons_succ] at g0 g1 g2
         go_wp2_with fail
         refine bodyPost_ret (results_ct rfl _ _ w.heap.size 33 #[.string ⟨#[]⟩, .string ⟨#[]⟩, .bool false] (0, 0) _ rfl ?_ Try.underlying33 rfl (by kernel_rfl)) rfl ⟨rfl, ?_⟩
         ·
          exact blk_put (blk_put (blk_put HG5.out 0 _ rfl) 1 _ rfl) 2 _ rfl
         ·
          exact below_set (below_set (below_set HB5.out (Nat.le_refl _)) (Nat.le_refl _)) (Nat.le_refl _)
        | true =>
         have h := H.out
         rw [if_pos rfl] at h
         simp only [Option.some.injEq, Prod.mk.injEq] at h
         obtain ⟨rfl, rfl, rfl, rfl⟩ := h
         have g0 := cell_at HG5.out 0
         have f0 := free_at HG5.out 0
         have g1 := cell_at HG5.out 1
         have f1 := free_at HG5.out 1
         have g2 := cell_at HG5.out 2
         have f2 := free_at HG5.out 2
         simp only [List.getElem?_toArray, List.getElem?_cons_zero, List.getElem?_cons_succ] at g0 g1 g2
         go_wp2_with fail
         refine bodyPost_ret (results_ct rfl _ _ w.heap.size 33 #[.string ⟨#[98, 111, 111, 108]⟩, .string ⟨#[98, 111, 111, 108]⟩, .bool false] (0, 0) _ rfl ?_ Try.underlying33 rfl (by kernel_rfl)) rfl ⟨rfl, ?_⟩
         ·
          exact blk_put (blk_put (blk_put HG5.out 0 _ rfl) 1 _ rfl) 2 _ rfl
         ·
          exact below_set (below_set (below_set HB5.out (Nat.le_refl _)) (Nat.le_refl _)) (Nat.le_refl _)
     | false =>
      rw [hl, if_neg (by decide)] at h
      obtain ⟨hl1, hl2⟩ := Bool.or_eq_false_iff.1 hl
      clear hl
      obtain ⟨m1, hm1, h⟩ := Option.bind_eq_some_iff.1 h
      have HM1 := Aside0.mk hm1
      have H := Aside0.mk h
      clear hm1 h
      go_wp2_with fail
      refine (chaperonref15_takes.calls k a0 a1 m1 _ HM1.out).mono ?_
      rintro e w4 ⟨rfl, hb⟩
      have HB4 := Aside0.mk ((HB3.out.alloc HB3.out.size (.cells #[.string ⟨#[]⟩, .string ⟨#[]⟩, .bool false] 33 (0, 0))).trans (hb.mono (by have := HB3.out.size; simp; omega)))
      have HG4 := Aside0.mk ((hb.block _ (lt_of_at (at_alloc HG3.out (.cells #[.string ⟨#[]⟩, .string ⟨#[]⟩, .bool false] 33 (0, 0))))).trans (at_alloc HG3.out (.cells #[.string ⟨#[]⟩, .string ⟨#[]⟩, .bool false] 33 (0, 0))))
      have HX4 := Aside0.mk ((hb.block w3.heap.size (by simp)).trans (at_new w3 (.cells #[.string ⟨#[]⟩, .string ⟨#[]⟩, .bool false] 33 (0, 0)) rfl))
      have HSX := Aside0.mk (show w.heap.size < w3.heap.size from lt_of_at HG3.out)
      clear hb HB3 HG3
      cases m1 with
      | true =>
       cases e1 : (a2.toList == a1.toList) with
       | true =>
        have h := H.out
        rw [e1, if_pos (by simp)] at h
        have H := Aside0.mk h
        clear h
        cases hlt : chaperonref15_Bin.lt a0 with
        | true =>
         have h := H.out
         unfold chaperonref15_Bin.told at h
         rw [hlt, if_pos rfl] at h
         simp only [Option.some.injEq, Prod.mk.injEq] at h
         obtain ⟨rfl, rfl, rfl, rfl⟩ := h
         rcases chaperonref15_Bin.or_cases hlt with q1 | ⟨q1, q2⟩
         ·
          clear hlt H
          go_wp2_with (first | ((with_reducible refine gate_store (t := 9) (p := 68) rfl ?_); have c_ := cell_at HX4.out 0; have f_ := free_at HX4.out 0; simp only [List.getElem?_toArray, List.getElem?_cons_zero, List.getElem?_cons_succ] at c_; refine store_event (t := 9) (p := 68) (v := ?vo_q1) (w1 := (w4.setCell ⟨w3.heap.size, 0, none⟩ (.string a1))) ?hg_q1 ?ho_q1 ?hn_q1 ?hr_q1 ?_; (case ho_q1 => rfl); (case hg_q1 => rfl); (case hn_q1 => rfl); (case hr_q1 => first | (go_simp; done) | (go_simp; rfl)); intro w7 hw; have HX7 := Aside0.mk (show w7.heap[w3.heap.size]? = some (.cells #[.string a1, .string ⟨#[]⟩, .bool false] 33 (0, 0)) by rw [hw]; exact blk_put HX4.out 0 _ rfl); have HG7 := Aside0.mk (show w7.heap[w.heap.size]? = some (.cells #[.string ⟨#[]⟩, .string ⟨#[]⟩, .bool false] 33 (0, 0)) by rw [hw]; exact blk_far HG4.out (Nat.ne_of_lt HSX.out) _); have HB7 := Aside0.mk (show Below w.heap.size w w7 by rw [hw]; exact below_set HB4.out (Nat.le_of_lt HSX.out)); clear hw HX4 HG4 HB4; (try clear x0 x1 x2); (try clear g0 g1 g2 f0 f1 f2); clear c_ f_; have x0 := cell_at HX7.out 0; have x1 := cell_at HX7.out 1; have x2 := cell_at HX7.out 2; have g0 := cell_at HG7.out 0; have g1 := cell_at HG7.out 1; have g2 := cell_at HG7.out 2; have f0 := free_at HG7.out 0; have f1 := free_at HG7.out 1; have f2 := free_at HG7.out 2; simp only [List.getElem?_toArray, List.getElem?_cons_zero, List.getElem?_cons_succ] at x0 x1 x2 g0 g1 g2) | ((with_reducible refine gate_store (t := 9) (p := 90) rfl ?_); have c_ := cell_at HX7.out 1; have f_ := free_at HX7.out 1; simp only [List.getElem?_toArray, List.getElem?_cons_zero, List.getElem?_cons_succ] at c_; refine store_event (t := 9) (p := 90) (v := ?vo_q2) (w1 := (w7.setCell ⟨w3.heap.size, 1, none⟩ (.string a1))) ?hg_q2 ?ho_q2 ?hn_q2 ?hr_q2 ?_; (case ho_q2 => rfl); (case hg_q2 => rfl); (case hn_q2 => rfl); (case hr_q2 => first | (go_simp; done) | (go_simp; rfl)); intro w9 hw; have HX9 := Aside0.mk (show w9.heap[w3.heap.size]? = some (.cells #[.string a1, .string a1, .bool false] 33 (0, 0)) by rw [hw]; exact blk_put HX7.out 1 _ rfl); have HG9 := Aside0.mk (show w9.heap[w.heap.size]? = some (.cells #[.string ⟨#[]⟩, .string ⟨#[]⟩, .bool false] 33 (0, 0)) by rw [hw]; exact blk_far HG7.out (Nat.ne_of_lt HSX.out) _); have HB9 := Aside0.mk (show Below w.heap.size w w9 by rw [hw]; exact below_set HB7.out (Nat.le_of_lt HSX.out)); clear hw HX7 HG7 HB7; (try clear x0 x1 x2); (try clear g0 g1 g2 f0 f1 f2); clear c_ f_; have x0 := cell_at HX9.out 0; have x1 := cell_at HX9.out 1; have x2 := cell_at HX9.out 2; have g0 := cell_at HG9.out 0; have g1 := cell_at HG9.out 1; have g2 := cell_at HG9.out 2; have f0 := free_at HG9.out 0; have f1 := free_at HG9.out 1; have f2 := free_at HG9.out 2; simp only [List.getElem?_toArray, List.getElem?_cons_zero, List.getElem?_cons_succ] at x0 x1 x2 g0 g1 g2) | ((with_reducible refine gate_store (t := 9) (p := 97) rfl ?_); have c_ := cell_at HX9.out 1; have f_ := free_at HX9.out 1; simp only [List.getElem?_toArray, List.getElem?_cons_zero, List.getElem?_cons_succ] at c_; refine store_event (t := 9) (p := 97) (v := ?vo_q3) (w1 := (w9.setCell ⟨w3.heap.size, 1, none⟩ (.string ⟨#[98, 111, 111, 108]⟩))) ?hg_q3 ?ho_q3 ?hn_q3 ?hr_q3 ?_; (case ho_q3 => rfl); (case hg_q3 => rfl); (case hn_q3 => rfl); (case hr_q3 => first | (go_simp; done) | (go_simp; rfl)); intro w10 hw; have HX10 := Aside0.mk (show w10.heap[w3.heap.size]? = some (.cells #[.string a1, .string ⟨#[98, 111, 111, 108]⟩, .bool false] 33 (0, 0)) by rw [hw]; exact blk_put HX9.out 1 _ rfl); have HG10 := Aside0.mk (show w10.heap[w.heap.size]? = some (.cells #[.string ⟨#[]⟩, .string ⟨#[]⟩, .bool false] 33 (0, 0)) by rw [hw]; exact blk_far HG9.out (Nat.ne_of_lt HSX.out) _); have HB10 := Aside0.mk (show Below w.heap.size w w10 by rw [hw]; exact below_set HB9.out (Nat.le_of_lt HSX.out)); clear hw HX9 HG9 HB9; (try clear x0 x1 x2); (try clear g0 g1 g2 f0 f1 f2); clear c_ f_; have x0 := cell_at HX10.out 0; have x1 := cell_at HX10.out 1; have x2 := cell_at HX10.out 2; have g0 := cell_at HG10.out 0; have g1 := cell_at HG10.out 1; have g2 := cell_at HG10.out 2; have f0 := free_at HG10.out 0; have f1 := free_at HG10.out 1; have f2 := free_at HG10.out 2; simp only [List.getElem?_toArray, List.getElem?_cons_zero, List.getElem?_cons_succ] at x0 x1 x2 g0 g1 g2))
          refine bodyPost_ret (results_ct rfl _ _ w.heap.size 33 #[.string a1, .string ⟨#[98, 111, 111, 108]⟩, .bool false] (0, 0) _ rfl ?_ Try.underlying33 rfl (by kernel_rfl)) rfl ⟨rfl, ?_⟩
          ·
           exact blk_put (blk_put (blk_put HG10.out 0 _ rfl) 1 _ rfl) 2 _ rfl
          ·
           exact below_set (below_set (below_set HB10.out (Nat.le_refl _)) (Nat.le_refl _)) (Nat.le_refl _)
         ·
          clear hlt H
          go_wp2_with (first | ((with_reducible refine gate_store (t := 9) (p := 68) rfl ?_); have c_ := cell_at HX4.out 0; have f_ := free_at HX4.out 0; simp only [List.getElem?_toArray, List.getElem?_cons_zero, List.getElem?_cons_succ] at c_; refine store_event (t := 9) (p := 68) (v := ?vo_q4) (w1 := (w4.setCell ⟨w3.heap.size, 0, none⟩ (.string a1))) ?hg_q4 ?ho_q4 ?hn_q4 ?hr_q4 ?_; (case ho_q4 => rfl); (case hg_q4 => rfl); (case hn_q4 => rfl); (case hr_q4 => first | (go_simp; done) | (go_simp; rfl)); intro w7 hw; have HX7 := Aside0.mk (show w7.heap[w3.heap.size]? = some (.cells #[.string a1, .string ⟨#[]⟩, .bool false] 33 (0, 0)) by rw [hw]; exact blk_put HX4.out 0 _ rfl); have HG7 := Aside0.mk (show w7.heap[w.heap.size]? = some (.cells #[.string ⟨#[]⟩, .string ⟨#[]⟩, .bool false] 33 (0, 0)) by rw [hw]; exact blk_far HG4.out (Nat.ne_of_lt HSX.out) _); have HB7 := Aside0.mk (show Below w.heap.size w w7 by rw [hw]; exact below_set HB4.out (Nat.le_of_lt HSX.out)); clear hw HX4 HG4 HB4; (try clear x0 x1 x2); (try clear g0 g1 g2 f0 f1 f2); clear c_ f_; have x0 := cell_at HX7.out 0; have x1 := cell_at HX7.out 1; have x2 := cell_at HX7.out 2; have g0 := cell_at HG7.out 0; have g1 := cell_at HG7.out 1; have g2 := cell_at HG7.out 2; have f0 := free_at HG7.out 0; have f1 := free_at HG7.out 1; have f2 := free_at HG7.out 2; simp only [List.getElem?_toArray, List.getElem?_cons_zero, List.getElem?_cons_succ] at x0 x1 x2 g0 g1 g2) | ((with_reducible refine gate_store (t := 9) (p := 90) rfl ?_); have c_ := cell_at HX7.out 1; have f_ := free_at HX7.out 1; simp only [List.getElem?_toArray, List.getElem?_cons_zero, List.getElem?_cons_succ] at c_; refine store_event (t := 9) (p := 90) (v := ?vo_q5) (w1 := (w7.setCell ⟨w3.heap.size, 1, none⟩ (.string a1))) ?hg_q5 ?ho_q5 ?hn_q5 ?hr_q5 ?_; (case ho_q5 => rfl); (case hg_q5 => rfl); (case hn_q5 => rfl); (case hr_q5 => first | (go_simp; done) | (go_simp; rfl)); intro w9 hw; have HX9 := Aside0.mk (show w9.heap[w3.heap.size]? = some (.cells #[.string a1, .string a1, .bool false] 33 (0, 0)) by rw [hw]; exact blk_put HX7.out 1 _ rfl); have HG9 := Aside0.mk (show w9.heap[w.heap.size]? = some (.cells #[.string ⟨#[]⟩, .string ⟨#[]⟩, .bool false] 33 (0, 0)) by rw [hw]; exact blk_far HG7.out (Nat.ne_of_lt HSX.out) _); have HB9 := Aside0.mk (show Below w.heap.size w w9 by rw [hw]; exact below_set HB7.out (Nat.le_of_lt HSX.out)); clear hw HX7 HG7 HB7; (try clear x0 x1 x2); (try clear g0 g1 g2 f0 f1 f2); clear c_ f_; have x0 := cell_at HX9.out 0; have x1 := cell_at HX9.out 1; have x2 := cell_at HX9.out 2; have g0 := cell_at HG9.out 0; have g1 := cell_at HG9.out 1; have g2 := cell_at HG9.out 2; have f0 := free_at HG9.out 0; have f1 := free_at HG9.out 1; have f2 := free_at HG9.out 2; simp only [List.getElem?_toArray, List.getElem?_cons_zero, List.getElem?_cons_succ] at x0 x1 x2 g0 g1 g2) | ((with_reducible refine gate_store (t := 9) (p := 97) rfl ?_); have c_ := cell_at HX9.out 1; have f_ := free_at HX9.out 1; simp only [List.getElem?_toArray, List.getElem?_cons_zero, List.getElem?_cons_succ] at c_; refine store_event (t := 9) (p := 97) (v := ?vo_q6) (w1 := (w9.setCell ⟨w3.heap.size, 1, none⟩ (.string ⟨#[98, 111, 111, 108]⟩))) ?hg_q6 ?ho_q6 ?hn_q6 ?hr_q6 ?_; (case ho_q6 => rfl); (case hg_q6 => rfl); (case hn_q6 => rfl); (case hr_q6 => first | (go_simp; done) | (go_simp; rfl)); intro w10 hw; have HX10 := Aside0.mk (show w10.heap[w3.heap.size]? = some (.cells #[.string a1, .string ⟨#[98, 111, 111, 108]⟩, .bool false] 33 (0, 0)) by rw [hw]; exact blk_put HX9.out 1 _ rfl); have HG10 := Aside0.mk (show w10.heap[w.heap.size]? = some (.cells #[.string ⟨#[]⟩, .string ⟨#[]⟩, .bool false] 33 (0, 0)) by rw [hw]; exact blk_far HG9.out (Nat.ne_of_lt HSX.out) _); have HB10 := Aside0.mk (show Below w.heap.size w w10 by rw [hw]; exact below_set HB9.out (Nat.le_of_lt HSX.out)); clear hw HX9 HG9 HB9; (try clear x0 x1 x2); (try clear g0 g1 g2 f0 f1 f2); clear c_ f_; have x0 := cell_at HX10.out 0; have x1 := cell_at HX10.out 1; have x2 := cell_at HX10.out 2; have g0 := cell_at HG10.out 0; have g1 := cell_at HG10.out 1; have g2 := cell_at HG10.out 2; have f0 := free_at HG10.out 0; have f1 := free_at HG10.out 1; have f2 := free_at HG10.out 2; simp only [List.getElem?_toArray, List.getElem?_cons_zero, List.getElem?_cons_succ] at x0 x1 x2 g0 g1 g2))
          refine bodyPost_ret (results_ct rfl _ _ w.heap.size 33 #[.string a1, .string ⟨#[98, 111, 111, 108]⟩, .bool false] (0, 0) _ rfl ?_ Try.underlying33 rfl (by kernel_rfl)) rfl ⟨rfl, ?_⟩
          ·
           exact blk_put (blk_put (blk_put HG10.out 0 _ rfl) 1 _ rfl) 2 _ rfl
          ·
           exact below_set (below_set (below_set HB10.out (Nat.le_refl _)) (Nat.le_refl _)) (Nat.le_refl _)
        | false =>
         have h := H.out
         unfold chaperonref15_Bin.told at h
         rw [hlt, if_neg (by decide)] at h
         simp only [Option.some.injEq, Prod.mk.injEq] at h
         obtain ⟨rfl, rfl, rfl, rfl⟩ := h
         obtain ⟨q1, q2⟩ := Bool.or_eq_false_iff.1 hlt
         clear hlt H
         go_wp2_with (first | ((with_reducible refine gate_store (t := 9) (p := 68) rfl ?_); have c_ := cell_at HX4.out 0; have f_ := free_at HX4.out 0; simp only [List.getElem?_toArray, List.getElem?_cons_zero, List.getElem?_cons_succ] at c_; refine store_event (t := 9) (p := 68) (v := ?vo_q7) (w1 := (w4.setCell ⟨w3.heap.size, 0, none⟩ (.string a1))) ?hg_q7 ?ho_q7 ?hn_q7 ?hr_q7 ?_; (case ho_q7 => rfl); (case hg_q7 => rfl); (case hn_q7 => rfl); (case hr_q7 => first | (go_simp; done) | (go_simp; rfl)); intro w7 hw; have HX7 := Aside0.mk (show w7.heap[w3.heap.size]? = some (.cells #[.string a1, .string ⟨#[]⟩, .bool false] 33 (0, 0)) by rw [hw]; exact blk_put HX4.out 0 _ rfl); have HG7 := Aside0.mk (show w7.heap[w.heap.size]? = some (.cells #[.string ⟨#[]⟩, .string ⟨#[]⟩, .bool false] 33 (0, 0)) by rw [hw]; exact blk_far HG4.out (Nat.ne_of_lt HSX.out) _); have HB7 := Aside0.mk (show Below w.heap.size w w7 by rw [hw]; exact below_set HB4.out (Nat.le_of_lt HSX.out)); clear hw HX4 HG4 HB4; (try clear x0 x1 x2); (try clear g0 g1 g2 f0 f1 f2); clear c_ f_; have x0 := cell_at HX7.out 0; have x1 := cell_at HX7.out 1; have x2 := cell_at HX7.out 2; have g0 := cell_at HG7.out 0; have g1 := cell_at HG7.out 1; have g2 := cell_at HG7.out 2; have f0 := free_at HG7.out 0; have f1 := free_at HG7.out 1; have f2 := free_at HG7.out 2; simp only [List.getElem?_toArray, List.getElem?_cons_zero, List.getElem?_cons_succ] at x0 x1 x2 g0 g1 g2) | ((with_reducible refine gate_store (t := 9) (p := 90) rfl ?_); have c_ := cell_at HX7.out 1; have f_ := free_at HX7.out 1; simp only [List.getElem?_toArray, List.getElem?_cons_zero, List.getElem?_cons_succ] at c_; refine store_event (t := 9) (p := 90) (v := ?vo_q8) (w1 := (w7.setCell ⟨w3.heap.size, 1, none⟩ (.string a1))) ?hg_q8 ?ho_q8 ?hn_q8 ?hr_q8 ?_; (case ho_q8 => rfl); (case hg_q8 => rfl); (case hn_q8 => rfl); (case hr_q8 => first | (go_simp; done) | (go_simp; rfl)); intro w9 hw; have HX9 := Aside0.mk (show w9.heap[w3.heap.size]? = some (.cells #[.string a1, .string a1, .bool false] 33 (0, 0)) by rw [hw]; exact blk_put HX7.out 1 _ rfl); have HG9 := Aside0.mk (show w9.heap[w.heap.size]? = some (.cells #[.string ⟨#[]⟩, .string ⟨#[]⟩, .bool false] 33 (0, 0)) by rw [hw]; exact blk_far HG7.out (Nat.ne_of_lt HSX.out) _); have HB9 := Aside0.mk (show Below w.heap.size w w9 by rw [hw]; exact below_set HB7.out (Nat.le_of_lt HSX.out)); clear hw HX7 HG7 HB7; (try clear x0 x1 x2); (try clear g0 g1 g2 f0 f1 f2); clear c_ f_; have x0 := cell_at HX9.out 0; have x1 := cell_at HX9.out 1; have x2 := cell_at HX9.out 2; have g0 := cell_at HG9.out 0; have g1 := cell_at HG9.out 1; have g2 := cell_at HG9.out 2; have f0 := free_at HG9.out 0; have f1 := free_at HG9.out 1; have f2 := free_at HG9.out 2; simp only [List.getElem?_toArray, List.getElem?_cons_zero, List.getElem?_cons_succ] at x0 x1 x2 g0 g1 g2))
         refine bodyPost_ret (results_ct rfl _ _ w.heap.size 33 #[.string a1, .string a1, .bool false] (0, 0) _ rfl ?_ Try.underlying33 rfl (by kernel_rfl)) rfl ⟨rfl, ?_⟩
         ·
          exact blk_put (blk_put (blk_put HG9.out 0 _ rfl) 1 _ rfl) 2 _ rfl
         ·
          exact below_set (below_set (below_set HB9.out (Nat.le_refl _)) (Nat.le_refl _)) (Nat.le_refl _)
       | false =>
        cases e2 : (a2.toList == ([63] : List UInt8)) with
        | true =>
         have h := H.out
         rw [e1, e2, if_pos (by simp)] at h
         have H := Aside0.mk h
         clear h
         cases hlt : chaperonref15_Bin.lt a0 with
         | true =>
          have h := H.out
          unfold chaperonref15_Bin.told at h
          rw [hlt, if_pos rfl] at h
          simp only [Option.some.injEq, Prod.mk.injEq] at h
          obtain ⟨rfl, rfl, rfl, rfl⟩ := h
          rcases chaperonref15_Bin.or_cases hlt with q1 | ⟨q1, q2⟩
          ·
           clear hlt H
           go_wp2_with (first | ((with_reducible refine gate_store (t := 9) (p := 68) rfl ?_); have c_ := cell_at HX4.out 0; have f_ := free_at HX4.out 0; simp only [List.getElem?_toArray, List.getElem?_cons_zero, List.getElem?_cons_succ] at c_; refine store_event (t := 9) (p := 68) (v := ?vo_q9) (w1 := (w4.setCell ⟨w3.heap.size, 0, none⟩ (.string a1))) ?hg_q9 ?ho_q9 ?hn_q9 ?hr_q9 ?_; (case ho_q9 => rfl); (case hg_q9 => rfl); (case hn_q9 => rfl); (case hr_q9 => first | (go_simp; done) | (go_simp; rfl)); intro w7 hw; have HX7 := Aside0.mk (show w7.heap[w3.heap.size]? = some (.cells #[.string a1, .string ⟨#[]⟩, .bool false] 33 (0, 0)) by rw [hw]; exact blk_put HX4.out 0 _ rfl); have HG7 := Aside0.mk (show w7.heap[w.heap.size]? = some (.cells #[.string ⟨#[]⟩, .string ⟨#[]⟩, .bool false] 33 (0, 0)) by rw [hw]; exact blk_far HG4.out (Nat.ne_of_lt HSX.out) _); have HB7 := Aside0.mk (show Below w.heap.size w w7 by rw [hw]; exact below_set HB4.out (Nat.le_of_lt HSX.out)); clear hw HX4 HG4 HB4; (try clear x0 x1 x2); (try clear g0 g1 g2 f0 f1 f2); clear c_ f_; have x0 := cell_at HX7.out 0; have x1 := cell_at HX7.out 1; have x2 := cell_at HX7.out 2; have g0 := cell_at HG7.out 0; have g1 := cell_at HG7.out 1; have g2 := cell_at HG7.out 2; have f0 := free_at HG7.out 0; have f1 := free_at HG7.out 1; have f2 := free_at HG7.out 2; simp only [List.getElem?_toArray, List.getElem?_cons_zero, List.getElem?_cons_succ] at x0 x1 x2 g0 g1 g2) | ((with_reducible refine gate_store (t := 9) (p := 90) rfl ?_); have c_ := cell_at HX7.out 1; have f_ := free_at HX7.out 1; simp only [List.getElem?_toArray, List.getElem?_cons_zero, List.getElem?_cons_succ] at c_; refine store_event (t := 9) (p := 90) (v := ?vo_q10) (w1 := (w7.setCell ⟨w3.heap.size, 1, none⟩ (.string a1))) ?hg_q10 ?ho_q10 ?hn_q10 ?hr_q10 ?_; (case ho_q10 => rfl); (case hg_q10 => rfl); (case hn_q10 => rfl); (case hr_q10 => first | (go_simp; done) | (go_simp; rfl)); intro w9 hw; have HX9 := Aside0.mk (show w9.heap[w3.heap.size]? = some (.cells #[.string a1, .string a1, .bool false] 33 (0, 0)) by rw [hw]; exact blk_put HX7.out 1 _ rfl); have HG9 := Aside0.mk (show w9.heap[w.heap.size]? = some (.cells #[.string ⟨#[]⟩, .string ⟨#[]⟩, .bool false] 33 (0, 0)) by rw [hw]; exact blk_far HG7.out (Nat.ne_of_lt HSX.out) _); have HB9 := Aside0.mk (show Below w.heap.size w w9 by rw [hw]; exact below_set HB7.out (Nat.le_of_lt HSX.out)); clear hw HX7 HG7 HB7; (try clear x0 x1 x2); (try clear g0 g1 g2 f0 f1 f2); clear c_ f_; have x0 := cell_at HX9.out 0; have x1 := cell_at HX9.out 1; have x2 := cell_at HX9.out 2; have g0 := cell_at HG9.out 0; have g1 := cell_at HG9.out 1; have g2 := cell_at HG9.out 2; have f0 := free_at HG9.out 0; have f1 := free_at HG9.out 1; have f2 := free_at HG9.out 2; simp only [List.getElem?_toArray, List.getElem?_cons_zero, List.getElem?_cons_succ] at x0 x1 x2 g0 g1 g2) | ((with_reducible refine gate_store (t := 9) (p := 97) rfl ?_); have c_ := cell_at HX9.out 1; have f_ := free_at HX9.out 1; simp only [List.getElem?_toArray, List.getElem?_cons_zero, List.getElem?_cons_succ] at c_; refine store_event (t := 9) (p := 97) (v := ?vo_q11) (w1 := (w9.setCell ⟨w3.heap.size, 1, none⟩ (.string ⟨#[98, 111, 111, 108]⟩))) ?hg_q11 ?ho_q11 ?hn_q11 ?hr_q11 ?_; (case ho_q11 => rfl); (case hg_q11 => rfl); (case hn_q11 => rfl); (case hr_q11 => first | (go_simp; done) | (go_simp; rfl)); intro w10 hw; have HX10 := Aside0.mk (show w10.heap[w3.heap.size]? = some (.cells #[.string a1, .string ⟨#[98, 111, 111, 108]⟩, .bool false] 33 (0, 0)) by rw [hw]; exact blk_put HX9.out 1 _ rfl); have HG10 := Aside0.mk (show w10.heap[w.heap.size]? = some (.cells #[.string ⟨#[]⟩, .string ⟨#[]⟩, .bool false] 33 (0, 0)) by rw [hw]; exact blk_far HG9.out (Nat.ne_of_lt HSX.out) _); have HB10 := Aside0.mk (show Below w.heap.size w w10 by rw [hw]; exact below_set HB9.out (Nat.le_of_lt HSX.out)); clear hw HX9 HG9 HB9; (try clear x0 x1 x2); (try clear g0 g1 g2 f0 f1 f2); clear c_ f_; have x0 := cell_at HX10.out 0; have x1 := cell_at HX10.out 1; have x2 := cell_at HX10.out 2; have g0 := cell_at HG10.out 0; have g1 := cell_at HG10.out 1; have g2 := cell_at HG10.out 2; have f0 := free_at HG10.out 0; have f1 := free_at HG10.out 1; have f2 := free_at HG10.out 2; simp only [List.getElem?_toArray, List.getElem?_cons_zero, List.getElem?_cons_succ] at x0 x1 x2 g0 g1 g2))
           refine bodyPost_ret (results_ct rfl _ _ w.heap.size 33 #[.string a1, .string ⟨#[98, 111, 111, 108]⟩, .bool false] (0, 0) _ rfl ?_ Try.underlying33 rfl (by kernel_rfl)) rfl ⟨rfl, ?_⟩
           ·
            exact blk_put (blk_put (blk_put HG10.out 0 _ rfl) 1 _ rfl) 2 _ rfl
           ·
            exact below_set (below_set (below_set HB10.out (Nat.le_refl _)) (Nat.le_refl _)) (Nat.le_refl _)
          ·
           clear hlt H
           go_wp2_with (first | ((with_reducible refine gate_store (t := 9) (p := 68) rfl ?_); have c_ := cell_at HX4.out 0; have f_ := free_at HX4.out 0; simp only [List.getElem?_toArray, List.getElem?_cons_zero, List.getElem?_cons_succ] at c_; refine store_event (t := 9) (p := 68) (v := ?vo_q12) (w1 := (w4.setCell ⟨w3.heap.size, 0, none⟩ (.string a1))) ?hg_q12 ?ho_q12 ?hn_q12 ?hr_q12 ?_; (case ho_q12 => rfl); (case hg_q12 => rfl); (case hn_q12 => rfl); (case hr_q12 => first | (go_simp; done) | (go_simp; rfl)); intro w7 hw; have HX7 := Aside0.mk (show w7.heap[w3.heap.size]? = some (.cells #[.string a1, .string ⟨#[]⟩, .bool false] 33 (0, 0)) by rw [hw]; exact blk_put HX4.out 0 _ rfl); have HG7 := Aside0.mk (show w7.heap[w.heap.size]? = some (.cells #[.string ⟨#[]⟩, .string ⟨#[]⟩, .bool false] 33 (0, 0)) by rw [hw]; exact blk_far HG4.out (Nat.ne_of_lt HSX.out) _); have HB7 := Aside0.mk (show Below w.heap.size w w7 by rw [hw]; exact below_set HB4.out (Nat.le_of_lt HSX.out)); clear hw HX4 HG4 HB4; (try clear x0 x1 x2); (try clear g0 g1 g2 f0 f1 f2); clear c_ f_; have x0 := cell_at HX7.out 0; have x1 := cell_at HX7.out 1; have x2 := cell_at HX7.out 2; have g0 := cell_at HG7.out 0; have g1 := cell_at HG7.out 1; have g2 := cell_at HG7.out 2; have f0 := free_at HG7.out 0; have f1 := free_at HG7.out 1; have f2 := free_at HG7.out 2; simp only [List.getElem?_toArray, List.getElem?_cons_zero, List.getElem?_cons_succ] at x0 x1 x2 g0 g1 g2) | ((with_reducible refine gate_store (t := 9) (p := 90) rfl ?_); have c_ := cell_at HX7.out 1; have f_ := free_at HX7.out 1; simp only [List.getElem?_toArray, List.getElem?_cons_zero, List.getElem?_cons_succ] at c_; refine store_event (t := 9) (p := 90) (v := ?vo_q13) (w1 := (w7.setCell ⟨w3.heap.size, 1, none⟩ (.string a1))) ?hg_q13 ?ho_q13 ?hn_q13 ?hr_q13 ?_; (case ho_q13 => rfl); (case hg_q13 => rfl); (case hn_q13 => rfl); (case hr_q13 => first | (go_simp; done) | (go_simp; rfl)); intro w9 hw; have HX9 := Aside0.mk (show w9.heap[w3.heap.size]? = some (.cells #[.string a1, .string a1, .bool false] 33 (0, 0)) by rw [hw]; exact blk_put HX7.out 1 _ rfl); have HG9 := Aside0.mk (show w9.heap[w.heap.size]? = some (.cells #[.string ⟨#[]⟩, .string ⟨#[]⟩, .bool false] 33 (0, 0)) by rw [hw]; exact blk_far HG7.out (Nat.ne_of_lt HSX.out) _); have HB9 := Aside0.mk (show Below w.heap.size w w9 by rw [hw]; exact below_set HB7.out (Nat.le_of_lt HSX.out)); clear hw HX7 HG7 HB7; (try clear x0 x1 x2); (try clear g0 g1 g2 f0 f1 f2); clear c_ f_; have x0 := cell_at HX9.out 0; have x1 := cell_at HX9.out 1; have x2 := cell_at HX9.out 2; have g0 := cell_at HG9.out 0; have g1 := cell_at HG9.out 1; have g2 := cell_at HG9.out 2; have f0 := free_at HG9.out 0; have f1 := free_at HG9.out 1; have f2 := free_at HG9.out 2; simp only [List.getElem?_toArray, List.getElem?_cons_zero, List.getElem?_cons_succ] at x0 x1 x2 g0 g1 g2) | ((with_reducible refine gate_store (t := 9) (p := 97) rfl ?_); have c_ := cell_at HX9.out 1; have f_ := free_at HX9.out 1; simp only [List.getElem?_toArray, List.getElem?_cons_zero, List.getElem?_cons_succ] at c_; refine store_event (t := 9) (p := 97) (v := ?vo_q14) (w1 := (w9.setCell ⟨w3.heap.size, 1, none⟩ (.string ⟨#[98, 111, 111, 108]⟩))) ?hg_q14 ?ho_q14 ?hn_q14 ?hr_q14 ?_; (case ho_q14 => rfl); (case hg_q14 => rfl); (case hn_q14 => rfl); (case hr_q14 => first | (go_simp; done) | (go_simp; rfl)); intro w10 hw; have HX10 := Aside0.mk (show w10.heap[w3.heap.size]? = some (.cells #[.string a1, .string ⟨#[98, 111, 111, 108]⟩, .bool false] 33 (0, 0)) by rw [hw]; exact blk_put HX9.out 1 _ rfl); have HG10 := Aside0.mk (show w10.heap[w.heap.size]? = some (.cells #[.string ⟨#[]⟩, .string ⟨#[]⟩, .bool false] 33 (0, 0)) by rw [hw]; exact blk_far HG9.out (Nat.ne_of_lt HSX.out) _); have HB10 := Aside0.mk (show Below w.heap.size w w10 by rw [hw]; exact below_set HB9.out (Nat.le_of_lt HSX.out)); clear hw HX9 HG9 HB9; (try clear x0 x1 x2); (try clear g0 g1 g2 f0 f1 f2); clear c_ f_; have x0 := cell_at HX10.out 0; have x1 := cell_at HX10.out 1; have x2 := cell_at HX10.out 2; have g0 := cell_at HG10.out 0; have g1 := cell_at HG10.out 1; have g2 := cell_at HG10.out 2; have f0 := free_at HG10.out 0; have f1 := free_at HG10.out 1; have f2 := free_at HG10.out 2; simp only [List.getElem?_toArray, List.getElem?_cons_zero, List.getElem?_cons_succ] at x0 x1 x2 g0 g1 g2))
           refine bodyPost_ret (results_ct rfl _ _ w.heap.size 33 #[.string a1, .string ⟨#[98, 111, 111, 108]⟩, .bool false] (0, 0) _ rfl ?_ Try.underlying33 rfl (by kernel_rfl)) rfl ⟨rfl, ?_⟩
           ·
            exact blk_put (blk_put (blk_put HG10.out 0 _ rfl) 1 _ rfl) 2 _ rfl
           ·
            exact below_set (below_set (below_set HB10.out (Nat.le_refl _)) (Nat.le_refl _)) (Nat.le_refl _)
         | false =>
          have h := H.out
          unfold chaperonref15_Bin.told at h
          rw [hlt, if_neg (by decide)] at h
          simp only [Option.some.injEq, Prod.mk.injEq] at h
          obtain ⟨rfl, rfl, rfl, rfl⟩ := h
          obtain ⟨q1, q2⟩ := Bool.or_eq_false_iff.1 hlt
          clear hlt H
          go_wp2_with (first | ((with_reducible refine gate_store (t := 9) (p := 68) rfl ?_); have c_ := cell_at HX4.out 0; have f_ := free_at HX4.out 0; simp only [List.getElem?_toArray, List.getElem?_cons_zero, List.getElem?_cons_succ] at c_; refine store_event (t := 9) (p := 68) (v := ?vo_q15) (w1 := (w4.setCell ⟨w3.heap.size, 0, none⟩ (.string a1))) ?hg_q15 ?ho_q15 ?hn_q15 ?hr_q15 ?_; (case ho_q15 => rfl); (case hg_q15 => rfl); (case hn_q15 => rfl); (case hr_q15 => first | (go_simp; done) | (go_simp; rfl)); intro w7 hw; have HX7 := Aside0.mk (show w7.heap[w3.heap.size]? = some (.cells #[.string a1, .string ⟨#[]⟩, .bool false] 33 (0, 0)) by rw [hw]; exact blk_put HX4.out 0 _ rfl); have HG7 := Aside0.mk (show w7.heap[w.heap.size]? = some (.cells #[.string ⟨#[]⟩, .string ⟨#[]⟩, .bool false] 33 (0, 0)) by rw [hw]; exact blk_far HG4.out (Nat.ne_of_lt HSX.out) _); have HB7 := Aside0.mk (show Below w.heap.size w w7 by rw [hw]; exact below_set HB4.out (Nat.le_of_lt HSX.out)); clear hw HX4 HG4 HB4; (try clear x0 x1 x2); (try clear g0 g1 g2 f0 f1 f2); clear c_ f_; have x0 := cell_at HX7.out 0; have x1 := cell_at HX7.out 1; have x2 := cell_at HX7.out 2; have g0 := cell_at HG7.out 0; have g1 := cell_at HG7.out 1; have g2 := cell_at HG7.out 2; have f0 := free_at HG7.out 0; have f1 := free_at HG7.out 1; have f2 := free_at HG7.out 2; simp only [List.getElem?_toArray, List.getElem?_cons_zero, List.getElem?_cons_succ] at x0 x1 x2 g0 g1 g2) | ((with_reducible refine gate_store (t := 9) (p := 90) rfl ?_); have c_ := cell_at HX7.out 1; have f_ := free_at HX7.out 1; simp only [List.getElem?_toArray, List.getElem?_cons_zero, List.getElem?_cons_succ] at c_; refine store_event (t := 9) (p := 90) (v := ?vo_q16) (w1 := (w7.setCell ⟨w3.heap.size, 1, none⟩ (.string a1))) ?hg_q16 ?ho_q16 ?hn_q16 ?hr_q16 ?_; (case ho_q16 => rfl); (case hg_q16 => rfl); (case hn_q16 => rfl); (case hr_q16 => first | (go_simp; done) | (go_simp; rfl)); intro w9 hw; have HX9 := Aside0.mk (show w9.heap[w3.heap.size]? = some (.cells #[.string a1, .string a1, .bool false] 33 (0, 0)) by rw [hw]; exact blk_put HX7.out 1 _ rfl); have HG9 := Aside0.mk (show w9.heap[w.heap.size]? = some (.cells #[.string ⟨#[]⟩, .string ⟨#[]⟩, .bool false] 33 (0, 0)) by rw [hw]; exact blk_far HG7.out (Nat.ne_of_lt HSX.out) _); have HB9 := Aside0.mk (show Below w.heap.size w w9 by rw [hw]; exact below_set HB7.out (Nat.le_of_lt HSX.out)); clear hw HX7 HG7 HB7; (try clear x0 x1 x2); (try clear g0 g1 g2 f0 f1 f2); clear c_ f_; have x0 := cell_at HX9.out 0; have x1 := cell_at HX9.out 1; have x2 := cell_at HX9.out 2; have g0 := cell_at HG9.out 0; have g1 := cell_at HG9.out 1; have g2 := cell_at HG9.out 2; have f0 := free_at HG9.out 0; have f1 := free_at HG9.out 1; have f2 := free_at HG9.out 2; simp only [List.getElem?_toArray, List.getElem?_cons_zero, List.getElem?_cons_succ] at x0 x1 x2 g0 g1 g2))
          refine bodyPost_ret (results_ct rfl _ _ w.heap.size 33 #[.string a1, .string a1, .bool false] (0, 0) _ rfl ?_ Try.underlying33 rfl (by kernel_rfl)) rfl ⟨rfl, ?_⟩
          ·
           exact blk_put (blk_put (blk_put HG9.out 0 _ rfl) 1 _ rfl) 2 _ rfl
          ·
           exact below_set (below_set (below_set HB9.out (Nat.le_refl _)) (Nat.le_refl _)) (Nat.le_refl _)
        | false =>
         have h := H.out
         rw [e1, e2, if_neg (by simp)] at h
         have H := Aside0.mk h
         clear h
         cases e3 : (a1.toList == ([63] : List UInt8)) with
         | false =>
          have h := H.out
          rw [e3, if_neg (by decide)] at h
          have H := Aside0.mk h
          clear h
          have h := H.out
          simp only [chaperonref15_Bin.no, Option.some.injEq, Prod.mk.injEq] at h
          obtain ⟨rfl, rfl, rfl, rfl⟩ := h
          have g0 := cell_at HG4.out 0
          have f0 := free_at HG4.out 0
          have g1 := cell_at HG4.out 1
          have f1 := free_at HG4.out 1
          have g2 := cell_at HG4.out 2
          have f2 := free_at HG4.out 2
          simp only [List.getElem?_toArray, List.getElem?_cons_zero, List.getElem?_cons_succ] at g0 g1 g2
          go_wp2_with fail
          refine bodyPost_ret (results_ct rfl _ _ w.heap.size 33 #[.string ⟨#[]⟩, .string ⟨#[]⟩, .bool false] (0, 0) _ rfl ?_ Try.underlying33 rfl (by kernel_rfl)) rfl ⟨rfl, ?_⟩
          ·
           exact blk_put (blk_put (blk_put HG4.out 0 _ rfl) 1 _ rfl) 2 _ rfl
          ·
           exact below_set (below_set (below_set HB4.out (Nat.le_refl _)) (Nat.le_refl _)) (Nat.le_refl _)
         | true =>
          have h := H.out
          rw [e3, if_pos rfl] at h
          obtain ⟨m2, hm2, h⟩ := Option.bind_eq_some_iff.1 h
          have HM2 := Aside0.mk hm2
          have H := Aside0.mk h
          clear hm2 h
          go_wp2_with fail
          refine (chaperonref15_takes.calls k a0 a2 m2 _ HM2.out).mono ?_
          rintro e w5 ⟨rfl, hb⟩
          have HB5 := Aside0.mk (HB4.out.trans (hb.mono HB4.out.size))
          have HG5 := Aside0.mk ((hb.block _ (lt_of_at HG4.out)).trans HG4.out)
          have HX5 := Aside0.mk ((hb.block _ (lt_of_at HX4.out)).trans HX4.out)
          clear hb HB4 HG4 HX4
          cases m2 with
          | true =>
           have h := H.out
           rw [if_pos rfl] at h
           have H := Aside0.mk h
           clear h
           cases hlt : chaperonref15_Bin.lt a0 with
           | true =>
            have h := H.out
            unfold chaperonref15_Bin.told at h
            rw [hlt, if_pos rfl] at h
            simp only [Option.some.injEq, Prod.mk.injEq] at h
            obtain ⟨rfl, rfl, rfl, rfl⟩ := h
            rcases chaperonref15_Bin.or_cases hlt with q1 | ⟨q1, q2⟩
            ·
             clear hlt H
             go_wp2_with (first | ((with_reducible refine gate_store (t := 9) (p := 78) rfl ?_); have c_ := cell_at HX5.out 0; have f_ := free_at HX5.out 0; simp only [List.getElem?_toArray, List.getElem?_cons_zero, List.getElem?_cons_succ] at c_; refine store_event (t := 9) (p := 78) (v := ?vo_q17) (w1 := (w5.setCell ⟨w3.heap.size, 0, none⟩ (.string a2))) ?hg_q17 ?ho_q17 ?hn_q17 ?hr_q17 ?_; (case ho_q17 => rfl); (case hg_q17 => rfl); (case hn_q17 => rfl); (case hr_q17 => first | (go_simp; done) | (go_simp; rfl)); intro w7 hw; have HX7 := Aside0.mk (show w7.heap[w3.heap.size]? = some (.cells #[.string a2, .string ⟨#[]⟩, .bool false] 33 (0, 0)) by rw [hw]; exact blk_put HX5.out 0 _ rfl); have HG7 := Aside0.mk (show w7.heap[w.heap.size]? = some (.cells #[.string ⟨#[]⟩, .string ⟨#[]⟩, .bool false] 33 (0, 0)) by rw [hw]; exact blk_far HG5.out (Nat.ne_of_lt HSX.out) _); have HB7 := Aside0.mk (show Below w.heap.size w w7 by rw [hw]; exact below_set HB5.out (Nat.le_of_lt HSX.out)); clear hw HX5 HG5 HB5; (try clear x0 x1 x2); (try clear g0 g1 g2 f0 f1 f2); clear c_ f_; have x0 := cell_at HX7.out 0; have x1 := cell_at HX7.out 1; have x2 := cell_at HX7.out 2; have g0 := cell_at HG7.out 0; have g1 := cell_at HG7.out 1; have g2 := cell_at HG7.out 2; have f0 := free_at HG7.out 0; have f1 := free_at HG7.out 1; have f2 := free_at HG7.out 2; simp only [List.getElem?_toArray, List.getElem?_cons_zero, List.getElem?_cons_succ] at x0 x1 x2 g0 g1 g2) | ((with_reducible refine gate_store (t := 9) (p := 90) rfl ?_); have c_ := cell_at HX7.out 1; have f_ := free_at HX7.out 1; simp only [List.getElem?_toArray, List.getElem?_cons_zero, List.getElem?_cons_succ] at c_; refine store_event (t := 9) (p := 90) (v := ?vo_q18) (w1 := (w7.setCell ⟨w3.heap.size, 1, none⟩ (.string a2))) ?hg_q18 ?ho_q18 ?hn_q18 ?hr_q18 ?_; (case ho_q18 => rfl); (case hg_q18 => rfl); (case hn_q18 => rfl); (case hr_q18 => first | (go_simp; done) | (go_simp; rfl)); intro w9 hw; have HX9 := Aside0.mk (show w9.heap[w3.heap.size]? = some (.cells #[.string a2, .string a2, .bool false] 33 (0, 0)) by rw [hw]; exact blk_put HX7.out 1 _ rfl); have HG9 := Aside0.mk (show w9.heap[w.heap.size]? = some (.cells #[.string ⟨#[]⟩, .string ⟨#[]⟩, .bool false] 33 (0, 0)) by rw [hw]; exact blk_far HG7.out (Nat.ne_of_lt HSX.out) _); have HB9 := Aside0.mk (show Below w.heap.size w w9 by rw [hw]; exact below_set HB7.out (Nat.le_of_lt HSX.out)); clear hw HX7 HG7 HB7; (try clear x0 x1 x2); (try clear g0 g1 g2 f0 f1 f2); clear c_ f_; have x0 := cell_at HX9.out 0; have x1 := cell_at HX9.out 1; have x2 := cell_at HX9.out 2; have g0 := cell_at HG9.out 0; have g1 := cell_at HG9.out 1; have g2 := cell_at HG9.out 2; have f0 := free_at HG9.out 0; have f1 := free_at HG9.out 1; have f2 := free_at HG9.out 2; simp only [List.getElem?_toArray, List.getElem?_cons_zero, List.getElem?_cons_succ] at x0 x1 x2 g0 g1 g2) | ((with_reducible refine gate_store (t := 9) (p := 97) rfl ?_); have c_ := cell_at HX9.out 1; have f_ := free_at HX9.out 1; simp only [List.getElem?_toArray, List.getElem?_cons_zero, List.getElem?_cons_succ] at c_; refine store_event (t := 9) (p := 97) (v := ?vo_q19) (w1 := (w9.setCell ⟨w3.heap.size, 1, none⟩ (.string ⟨#[98, 111, 111, 108]⟩))) ?hg_q19 ?ho_q19 ?hn_q19 ?hr_q19 ?_; (case ho_q19 => rfl); (case hg_q19 => rfl); (case hn_q19 => rfl); (case hr_q19 => first | (go_simp; done) | (go_simp; rfl)); intro w10 hw; have HX10 := Aside0.mk (show w10.heap[w3.heap.size]? = some (.cells #[.string a2, .string ⟨#[98, 111, 111, 108]⟩, .bool false] 33 (0, 0)) by rw [hw]; exact blk_put HX9.out 1 _ rfl); have HG10 := Aside0.mk (show w10.heap[w.heap.size]? = some (.cells #[.string ⟨#[]⟩, .string ⟨#[]⟩, .bool false] 33 (0, 0)) by rw [hw]; exact blk_far HG9.out (Nat.ne_of_lt HSX.out) _); have HB10 := Aside0.mk (show Below w.heap.size w w10 by rw [hw]; exact below_set HB9.out (Nat.le_of_lt HSX.out)); clear hw HX9 HG9 HB9; (try clear x0 x1 x2); (try clear g0 g1 g2 f0 f1 f2); clear c_ f_; have x0 := cell_at HX10.out 0; have x1 := cell_at HX10.out 1; have x2 := cell_at HX10.out 2; have g0 := cell_at HG10.out 0; have g1 := cell_at HG10.out 1; have g2 := cell_at HG10.out 2; have f0 := free_at HG10.out 0; have f1 := free_at HG10.out 1; have f2 := free_at HG10.out 2; simp only [List.getElem?_toArray, List.getElem?_cons_zero, List.getElem?_cons_succ] at x0 x1 x2 g0 g1 g2))
             refine bodyPost_ret (results_ct rfl _ _ w.heap.size 33 #[.string a2, .string ⟨#[98, 111, 111, 108]⟩, .bool false] (0, 0) _ rfl ?_ Try.underlying33 rfl (by kernel_rfl)) rfl ⟨rfl, ?_⟩
             ·
              exact blk_put (blk_put (blk_put HG10.out 0 _ rfl) 1 _ rfl) 2 _ rfl
             ·
              exact below_set (below_set (below_set HB10.out (Nat.le_refl _)) (Nat.le_refl _)) (Nat.le_refl _)
            ·
             clear hlt H
             go_wp2_with (first | ((with_reducible refine gate_store (t := 9) (p := 78) rfl ?_); have c_ := cell_at HX5.out 0; have f_ := free_at HX5.out 0; simp only [List.getElem?_toArray, List.getElem?_cons_zero, List.getElem?_cons_succ] at c_; refine store_event (t := 9) (p := 78) (v := ?vo_q20) (w1 := (w5.setCell ⟨w3.heap.size, 0, none⟩ (.string a2))) ?hg_q20 ?ho_q20 ?hn_q20 ?hr_q20 ?_; (case ho_q20 => rfl); (case hg_q20 => rfl); (case hn_q20 => rfl); (case hr_q20 => first | (go_simp; done) | (go_simp; rfl)); intro w7 hw; have HX7 := Aside0.mk (show w7.heap[w3.heap.size]? = some (.cells #[.string a2, .string ⟨#[]⟩, .bool false] 33 (0, 0)) by rw [hw]; exact blk_put HX5.out 0 _ rfl); have HG7 := Aside0.mk (show w7.heap[w.heap.size]? = some (.cells #[.string ⟨#[]⟩, .string ⟨#[]⟩, .bool false] 33 (0, 0)) by rw [hw]; exact blk_far HG5.out (Nat.ne_of_lt HSX.out) _); have HB7 := Aside0.mk (show Below w.heap.size w w7 by rw [hw]; exact below_set HB5.out (Nat.le_of_lt HSX.out)); clear hw HX5 HG5 HB5; (try clear x0 x1 x2); (try clear g0 g1 g2 f0 f1 f2); clear c_ f_; have x0 := cell_at HX7.out 0; have x1 := cell_at HX7.out 1; have x2 := cell_at HX7.out 2; have g0 := cell_at HG7.out 0; have g1 := cell_at HG7.out 1; have g2 := cell_at HG7.out 2; have f0 := free_at HG7.out 0; have f1 := free_at HG7.out 1; have f2 := free_at HG7.out 2; simp only [List.getElem?_toArray, List.getElem?_cons_zero, List.getElem?_cons_succ] at x0 x1 x2 g0 g1 g2) | ((with_reducible refine gate_store (t := 9) (p := 90) rfl ?_); have c_ := cell_at HX7.out 1; have f_ := free_at HX7.out 1; simp only [List.getElem?_toArray, List.getElem?_cons_zero, List.getElem?_cons_succ] at c_; refine store_event (t := 9) (p := 90) (v := ?vo_q21) (w1 := (w7.setCell ⟨w3.heap.size, 1, none⟩ (.string a2))) ?hg_q21 ?ho_q21 ?hn_q21 ?hr_q21 ?_; (case ho_q21 => rfl); (case hg_q21 => rfl); (case hn_q21 => rfl); (case hr_q21 => first | (go_simp; done) | (go_simp; rfl)); intro w9 hw; have HX9 := Aside0.mk (show w9.heap[w3.heap.size]? = some (.cells #[.string a2, .string a2, .bool false] 33 (0, 0)) by rw [hw]; exact blk_put HX7.out 1 _ rfl); have HG9 := Aside0.mk (show w9.heap[w.heap.size]? = some (.cells #[.string ⟨#[]⟩, .string ⟨#[]⟩, .bool false] 33 (0, 0)) by rw [hw]; exact blk_far HG7.out (Nat.ne_of_lt HSX.out) _); have HB9 := Aside0.mk (show Below w.heap.size w w9 by rw [hw]; exact below_set HB7.out (Nat.le_of_lt HSX.out)); clear hw HX7 HG7 HB7; (try clear x0 x1 x2); (try clear g0 g1 g2 f0 f1 f2); clear c_ f_; have x0 := cell_at HX9.out 0; have x1 := cell_at HX9.out 1; have x2 := cell_at HX9.out 2; have g0 := cell_at HG9.out 0; have g1 := cell_at HG9.out 1; have g2 := cell_at HG9.out 2; have f0 := free_at HG9.out 0; have f1 := free_at HG9.out 1; have f2 := free_at HG9.out 2; simp only [List.getElem?_toArray, List.getElem?_cons_zero, List.getElem?_cons_succ] at x0 x1 x2 g0 g1 g2) | ((with_reducible refine gate_store (t := 9) (p := 97) rfl ?_); have c_ := cell_at HX9.out 1; have f_ := free_at HX9.out 1; simp only [List.getElem?_toArray, List.getElem?_cons_zero, List.getElem?_cons_succ] at c_; refine store_event (t := 9) (p := 97) (v := ?vo_q22) (w1 := (w9.setCell ⟨w3.heap.size, 1, none⟩ (.string ⟨#[98, 111, 111, 108]⟩))) ?hg_q22 ?ho_q22 ?hn_q22 ?hr_q22 ?_; (case ho_q22 => rfl); (case hg_q22 => rfl); (case hn_q22 => rfl); (case hr_q22 => first | (go_simp; done) | (go_simp; rfl)); intro w10 hw; have HX10 := Aside0.mk (show w10.heap[w3.heap.size]? = some (.cells #[.string a2, .string ⟨#[98, 111, 111, 108]⟩, .bool false] 33 (0, 0)) by rw [hw]; exact blk_put HX9.out 1 _ rfl); have HG10 := Aside0.mk (show w10.heap[w.heap.size]? = some (.cells #[.string ⟨#[]⟩, .string ⟨#[]⟩, .bool false] 33 (0, 0)) by rw [hw]; exact blk_far HG9.out (Nat.ne_of_lt HSX.out) _); have HB10 := Aside0.mk (show Below w.heap.size w w10 by rw [hw]; exact below_set HB9.out (Nat.le_of_lt HSX.out)); clear hw HX9 HG9 HB9; (try clear x0 x1 x2); (try clear g0 g1 g2 f0 f1 f2); clear c_ f_; have x0 := cell_at HX10.out 0; have x1 := cell_at HX10.out 1; have x2 := cell_at HX10.out 2; have g0 := cell_at HG10.out 0; have g1 := cell_at HG10.out 1; have g2 := cell_at HG10.out 2; have f0 := free_at HG10.out 0; have f1 := free_at HG10.out 1; have f2 := free_at HG10.out 2; simp only [List.getElem?_toArray, List.getElem?_cons_zero, List.getElem?_cons_succ] at x0 x1 x2 g0 g1 g2))
             refine bodyPost_ret (results_ct rfl _ _ w.heap.size 33 #[.string a2, .string ⟨#[98, 111, 111, 108]⟩, .bool false] (0, 0) _ rfl ?_ Try.underlying33 rfl (by kernel_rfl)) rfl ⟨rfl, ?_⟩
             ·
              exact blk_put (blk_put (blk_put HG10.out 0 _ rfl) 1 _ rfl) 2 _ rfl
             ·
              exact below_set (below_set (below_set HB10.out (Nat.le_refl _)) (Nat.le_refl _)) (Nat.le_refl _)
           | false =>
            have h := H.out
            unfold chaperonref15_Bin.told at h
            rw [hlt, if_neg (by decide)] at h
            simp only [Option.some.injEq, Prod.mk.injEq] at h
            obtain ⟨rfl, rfl, rfl, rfl⟩ := h
            obtain ⟨q1, q2⟩ := Bool.or_eq_false_iff.1 hlt
            clear hlt H
            go_wp2_with (first | ((with_reducible refine gate_store (t := 9) (p := 78) rfl ?_); have c_ := cell_at HX5.out 0; have f_ := free_at HX5.out 0; simp only [List.getElem?_toArray, List.getElem?_cons_zero, List.getElem?_cons_succ] at c_; refine store_event (t := 9) (p := 78) (v := ?vo_q23) (w1 := (w5.setCell ⟨w3.heap.size, 0, none⟩ (.string a2))) ?hg_q23 ?ho_q23 ?hn_q23 ?hr_q23 ?_; (case ho_q23 => rfl); (case hg_q23 => rfl); (case hn_q23 => rfl); (case hr_q23 => first | (go_simp; done) | (go_simp; rfl)); intro w7 hw; have HX7 := Aside0.mk (show w7.heap[w3.heap.size]? = some (.cells #[.string a2, .string ⟨#[]⟩, .bool false] 33 (0, 0)) by rw [hw]; exact blk_put HX5.out 0 _ rfl); have HG7 := Aside0.mk (show w7.heap[w.heap.size]? = some (.cells #[.string ⟨#[]⟩, .string ⟨#[]⟩, .bool false] 33 (0, 0)) by rw [hw]; exact blk_far HG5.out (Nat.ne_of_lt HSX.out) _); have HB7 := Aside0.mk (show Below w.heap.size w w7 by rw [hw]; exact below_set HB5.out (Nat.le_of_lt HSX.out)); clear hw HX5 HG5 HB5; (try clear x0 x1 x2); (try clear g0 g1 g2 f0 f1 f2); clear c_ f_; have x0 := cell_at HX7.out 0; have x1 := cell_at HX7.out 1; have x2 := cell_at HX7.out 2; have g0 := cell_at HG7.out 0; have g1 := cell_at HG7.out 1; have g2 := cell_at HG7.out 2; have f0 := free_at HG7.out 0; have f1 := free_at HG7.out 1; have f2 := free_at HG7.out 2; simp only [List.getElem?_toArray, List.getElem?_cons_zero, List.getElem?_cons_succ] at x0 x1 x2 g0 g1 g2) | ((with_reducible refine gate_store (t := 9) (p := 90) rfl ?_); have c_ := cell_at HX7.out 1; have f_ := free_at HX7.out 1; simp only [List.getElem?_toArray, List.getElem?_cons_zero, List.getElem?_cons_succ] at c_; refine store_event (t := 9) (p := 90) (v := ?vo_q24) (w1 := (w7.setCell ⟨w3.heap.size, 1, none⟩ (.string a2))) ?hg_q24 ?ho_q24 ?hn_q24 ?hr_q24 ?_; (case ho_q24 => rfl); (case hg_q24 => rfl); (case hn_q24 => rfl); (case hr_q24 => first | (go_simp; done) | (go_simp; rfl)); intro w9 hw; have HX9 := Aside0.mk (show w9.heap[w3.heap.size]? = some (.cells #[.string a2, .string a2, .bool false] 33 (0, 0)) by rw [hw]; exact blk_put HX7.out 1 _ rfl); have HG9 := Aside0.mk (show w9.heap[w.heap.size]? = some (.cells #[.string ⟨#[]⟩, .string ⟨#[]⟩, .bool false] 33 (0, 0)) by rw [hw]; exact blk_far HG7.out (Nat.ne_of_lt HSX.out) _); have HB9 := Aside0.mk (show Below w.heap.size w w9 by rw [hw]; exact below_set HB7.out (Nat.le_of_lt HSX.out)); clear hw HX7 HG7 HB7; (try clear x0 x1 x2); (try clear g0 g1 g2 f0 f1 f2); clear c_ f_; have x0 := cell_at HX9.out 0; have x1 := cell_at HX9.out 1; have x2 := cell_at HX9.out 2; have g0 := cell_at HG9.out 0; have g1 := cell_at HG9.out 1; have g2 := cell_at HG9.out 2; have f0 := free_at HG9.out 0; have f1 := free_at HG9.out 1; have f2 := free_at HG9.out 2; simp only [List.getElem?_toArray, List.getElem?_cons_zero, List.getElem?_cons_succ] at x0 x1 x2 g0 g1 g2))
            refine bodyPost_ret (results_ct rfl _ _ w.heap.size 33 #[.string a2, .string a2, .bool false] (0, 0) _ rfl ?_ Try.underlying33 rfl (by kernel_rfl)) rfl ⟨rfl, ?_⟩
            ·
             exact blk_put (blk_put (blk_put HG9.out 0 _ rfl) 1 _ rfl) 2 _ rfl
            ·
             exact below_set (below_set (below_set HB9.out (Nat.le_refl _)) (Nat.le_refl _)) (Nat.le_refl _)
          | false =>
           have h := H.out
           rw [if_neg (by decide)] at h
           rw [if_neg (by decide)] at h
           have H := Aside0.mk h
           clear h
           have h := H.out
           simp only [chaperonref15_Bin.no, Option.some.injEq, Prod.mk.injEq] at h
           obtain ⟨rfl, rfl, rfl, rfl⟩ := h
           have g0 := cell_at HG5.out 0
           have f0 := free_at HG5.out 0
           have g1 := cell_at HG5.out 1
           have f1 := free_at HG5.out 1
           have g2 := cell_at HG5.out 2
           have f2 := free_at HG5.out 2
           simp only [List.getElem?_toArray, List.getElem?_cons_zero, List.getElem?_cons_succ] at g0 g1 g2
           go_wp2_with fail
           refine bodyPost_ret (results_ct rfl _ _ w.heap.size 33 #[.string ⟨#[]⟩, .string ⟨#[]⟩, .bool false] (0, 0) _ rfl ?_ Try.underlying33 rfl (by kernel_rfl)) rfl ⟨rfl, ?_⟩
           ·
            exact blk_put (blk_put (blk_put HG5.out 0 _ rfl) 1 _ rfl) 2 _ rfl
           ·
            exact below_set (below_set (below_set HB5.out (Nat.le_refl _)) (Nat.le_refl _)) (Nat.le_refl _)
      | false =>
       have h := H.out
       rw [Bool.false_and, if_neg (by decide)] at h
       have H := Aside0.mk h
       clear h
       cases e3 : (a1.toList == ([63] : List UInt8)) with
       | false =>
        have h := H.out
        rw [e3, if_neg (by decide)] at h
        have H := Aside0.mk h
        clear h
        have h := H.out
        simp only [chaperonref15_Bin.no, Option.some.injEq, Prod.mk.injEq] at h
        obtain ⟨rfl, rfl, rfl, rfl⟩ := h
        have g0 := cell_at HG4.out 0
        have f0 := free_at HG4.out 0
        have g1 := cell_at HG4.out 1
        have f1 := free_at HG4.out 1
        have g2 := cell_at HG4.out 2
        have f2 := free_at HG4.out 2
        simp only [List.getElem?_toArray, List.getElem?_cons_zero, List.getElem?_cons_succ] at g0 g1 g2
        go_wp2_with fail
        refine bodyPost_ret (results_ct rfl _ _ w.heap.size 33 #[.string ⟨#[]⟩, .string ⟨#[]⟩, .bool false] (0, 0) _ rfl ?_ Try.underlying33 rfl (by kernel_rfl)) rfl ⟨rfl, ?_⟩
        ·
         exact blk_put (blk_put (blk_put HG4.out 0 _ rfl) 1 _ rfl) 2 _ rfl
        ·
         exact below_set (below_set (below_set HB4.out (Nat.le_refl _)) (Nat.le_refl _)) (Nat.le_refl _)
       | true =>
        have h := H.out
        rw [e3, if_pos rfl] at h
        obtain ⟨m2, hm2, h⟩ := Option.bind_eq_some_iff.1 h
        have HM2 := Aside0.mk hm2
        have H := Aside0.mk h
        clear hm2 h
        go_wp2_with fail
        refine (chaperonref15_takes.calls k a0 a2 m2 _ HM2.out).mono ?_
        rintro e w5 ⟨rfl, hb⟩
        have HB5 := Aside0.mk (HB4.out.trans (hb.mono HB4.out.size))
        have HG5 := Aside0.mk ((hb.block _ (lt_of_at HG4.out)).trans HG4.out)
        have HX5 := Aside0.mk ((hb.block _ (lt_of_at HX4.out)).trans HX4.out)
        clear hb HB4 HG4 HX4
        cases m2 with
        | true =>
         have h := H.out
         rw [if_pos rfl] at h
         have H := Aside0.mk h
         clear h
         cases hlt : chaperonref15_Bin.lt a0 with
         | true =>
          have h := H.out
          unfold chaperonref15_Bin.told at h
          rw [hlt, if_pos rfl] at h
          simp only [Option.some.injEq, Prod.mk.injEq] at h
          obtain ⟨rfl, rfl, rfl, rfl⟩ := h
          rcases chaperonref15_Bin.or_cases hlt with q1 | ⟨q1, q2⟩
          ·
           clear hlt H
           go_wp2_with (first | ((with_reducible refine gate_store (t := 9) (p := 78) rfl ?_); have c_ := cell_at HX5.out 0; have f_ := free_at HX5.out 0; simp only [List.getElem?_toArray, List.getElem?_cons_zero, List.getElem?_cons_succ] at c_; refine store_event (t := 9) (p := 78) (v := ?vo_q25) (w1 := (w5.setCell ⟨w3.heap.size, 0, none⟩ (.string a2))) ?hg_q25 ?ho_q25 ?hn_q25 ?hr_q25 ?_; (case ho_q25 => rfl); (case hg_q25 => rfl); (case hn_q25 => rfl); (case hr_q25 => first | (go_simp; done) | (go_simp; rfl)); intro w7 hw; have HX7 := Aside0.mk (show w7.heap[w3.heap.size]? = some (.cells #[.string a2, .string ⟨#[]⟩, .bool false] 33 (0, 0)) by rw [hw]; exact blk_put HX5.out 0 _ rfl); have HG7 := Aside0.mk (show w7.heap[w.heap.size]? = some (.cells #[.string ⟨#[]⟩, .string ⟨#[]⟩, .bool false] 33 (0, 0)) by rw [hw]; exact blk_far HG5.out (Nat.ne_of_lt HSX.out) _); have HB7 := Aside0.mk (show Below w.heap.size w w7 by rw [hw]; exact below_set HB5.out (Nat.le_of_lt HSX.out)); clear hw HX5 HG5 HB5; (try clear x0 x1 x2); (try clear g0 g1 g2 f0 f1 f2); clear c_ f_; have x0 := cell_at HX7.out 0; have x1 := cell_at HX7.out 1; have x2 := cell_at HX7.out 2; have g0 := cell_at HG7.out 0; have g1 := cell_at HG7.out 1; have g2 := cell_at HG7.out 2; have f0 := free_at HG7.out 0; have f1 := free_at HG7.out 1; have f2 := free_at HG7.out 2; simp only [List.getElem?_toArray, List.getElem?_cons_zero, List.getElem?_cons_succ] at x0 x1 x2 g0 g1 g2) | ((with_reducible refine gate_store (t := 9) (p := 90) rfl ?_); have c_ := cell_at HX7.out 1; have f_ := free_at HX7.out 1; simp only [List.getElem?_toArray, List.getElem?_cons_zero, List.getElem?_cons_succ] at c_; refine store_event (t := 9) (p := 90) (v := ?vo_q26) (w1 := (w7.setCell ⟨w3.heap.size, 1, none⟩ (.string a2))) ?hg_q26 ?ho_q26 ?hn_q26 ?hr_q26 ?_; (case ho_q26 => rfl); (case hg_q26 => rfl); (case hn_q26 => rfl); (case hr_q26 => first | (go_simp; done) | (go_simp; rfl)); intro w9 hw; have HX9 := Aside0.mk (show w9.heap[w3.heap.size]? = some (.cells #[.string a2, .string a2, .bool false] 33 (0, 0)) by rw [hw]; exact blk_put HX7.out 1 _ rfl); have HG9 := Aside0.mk (show w9.heap[w.heap.size]? = some (.cells #[.string ⟨#[]⟩, .string ⟨#[]⟩, .bool false] 33 (0, 0)) by rw [hw]; exact blk_far HG7.out (Nat.ne_of_lt HSX.out) _); have HB9 := Aside0.mk (show Below w.heap.size w w9 by rw [hw]; exact below_set HB7.out (Nat.le_of_lt HSX.out)); clear hw HX7 HG7 HB7; (try clear x0 x1 x2); (try clear g0 g1 g2 f0 f1 f2); clear c_ f_; have x0 := cell_at HX9.out 0; have x1 := cell_at HX9.out 1; have x2 := cell_at HX9.out 2; have g0 := cell_at HG9.out 0; have g1 := cell_at HG9.out 1; have g2 := cell_at HG9.out 2; have f0 := free_at HG9.out 0; have f1 := free_at HG9.out 1; have f2 := free_at HG9.out 2; simp only [List.getElem?_toArray, List.getElem?_cons_zero, List.getElem?_cons_succ] at x0 x1 x2 g0 g1 g2) | ((with_reducible refine gate_store (t := 9) (p := 97) rfl ?_); have c_ := cell_at HX9.out 1; have f_ := free_at HX9.out 1; simp only [List.getElem?_toArray, List.getElem?_cons_zero, List.getElem?_cons_succ] at c_; refine store_event (t := 9) (p := 97) (v := ?vo_q27) (w1 := (w9.setCell ⟨w3.heap.size, 1, none⟩ (.string ⟨#[98, 111, 111, 108]⟩))) ?hg_q27 ?ho_q27 ?hn_q27 ?hr_q27 ?_; (case ho_q27 => rfl); (case hg_q27 => rfl); (case hn_q27 => rfl); (case hr_q27 => first | (go_simp; done) | (go_simp; rfl)); intro w10 hw; have HX10 := Aside0.mk (show w10.heap[w3.heap.size]? = some (.cells #[.string a2, .string ⟨#[98, 111, 111, 108]⟩, .bool false] 33 (0, 0)) by rw [hw]; exact blk_put HX9.out 1 _ rfl); have HG10 := Aside0.mk (show w10.heap[w.heap.size]? = some (.cells #[.string ⟨#[]⟩, .string ⟨#[]⟩, .bool false] 33 (0, 0)) by rw [hw]; exact blk_far HG9.out (Nat.ne_of_lt HSX.out) _); have HB10 := Aside0.mk (show Below w.heap.size w w10 by rw [hw]; exact below_set HB9.out (Nat.le_of_lt HSX.out)); clear hw HX9 HG9 HB9; (try clear x0 x1 x2); (try clear g0 g1 g2 f0 f1 f2); clear c_ f_; have x0 := cell_at HX10.out 0; have x1 := cell_at HX10.out 1; have x2 := cell_at HX10.out 2; have g0 := cell_at HG10.out 0; have g1 := cell_at HG10.out 1; have g2 := cell_at HG10.out 2; have f0 := free_at HG10.out 0; have f1 := free_at HG10.out 1; have f2 := free_at HG10.out 2; simp only [List.getElem?_toArray, List.getElem?_cons_zero, List.getElem?_cons_succ] at x0 x1 x2 g0 g1 g2))
           refine bodyPost_ret (results_ct rfl _ _ w.heap.size 33 #[.string a2, .string ⟨#[98, 111, 111, 108]⟩, .bool false] (0, 0) _ rfl ?_ Try.underlying33 rfl (by kernel_rfl)) rfl ⟨rfl, ?_⟩
           ·
            exact blk_put (blk_put (blk_put HG10.out 0 _ rfl) 1 _ rfl) 2 _ rfl
           ·
            exact below_set (below_set (below_set HB10.out (Nat.le_refl _)) (Nat.le_refl _)) (Nat.le_refl _)
          ·
           clear hlt H
           go_wp2_with (first | ((with_reducible refine gate_store (t := 9) (p := 78) rfl ?_); have c_ := cell_at HX5.out 0; have f_ := free_at HX5.out 0; simp only [List.getElem?_toArray, List.getElem?_cons_zero, List.getElem?_cons_succ] at c_; refine store_event (t := 9) (p := 78) (v := ?vo_q28) (w1 := (w5.setCell ⟨w3.heap.size, 0, none⟩ (.string a2))) ?hg_q28 ?ho_q28 ?hn_q28 ?hr_q28 ?_; (case ho_q28 => rfl); (case hg_q28 => rfl); (case hn_q28 => rfl); (case hr_q28 => first | (go_simp; done) | (go_simp; rfl)); intro w7 hw; have HX7 := Aside0.mk (show w7.heap[w3.heap.size]? = some (.cells #[.string a2, .string ⟨#[]⟩, .bool false] 33 (0, 0)) by rw [hw]; exact blk_put HX5.out 0 _ rfl); have HG7 := Aside0.mk (show w7.heap[w.heap.size]? = some (.cells #[.string ⟨#[]⟩, .string ⟨#[]⟩, .bool false] 33 (0, 0)) by rw [hw]; exact blk_far HG5.out (Nat.ne_of_lt HSX.out) _); have HB7 := Aside0.mk (show Below w.heap.size w w7 by rw [hw]; exact below_set HB5.out (Nat.le_of_lt HSX.out)); clear hw HX5 HG5 HB5; (try clear x0 x1 x2); (try clear g0 g1 g2 f0 f1 f2); clear c_ f_; have x0 := cell_at HX7.out 0; have x1 := cell_at HX7.out 1; have x2 := cell_at HX7.out 2; have g0 := cell_at HG7.out 0; have g1 := cell_at HG7.out 1; have g2 := cell_at HG7.out 2; have f0 := free_at HG7.out 0; have f1 := free_at HG7.out 1; have f2 := free_at HG7.out 2; simp only [List.getElem?_toArray, List.getElem?_cons_zero, List.getElem?_cons_succ] at x0 x1 x2 g0 g1 g2) | ((with_reducible refine gate_store (t := 9) (p := 90) rfl ?_); have c_ := cell_at HX7.out 1; have f_ := free_at HX7.out 1; simp only [List.getElem?_toArray, List.getElem?_cons_zero, List.getElem?_cons_succ] at c_; refine store_event (t := 9) (p := 90) (v := ?vo_q29) (w1 := (w7.setCell ⟨w3.heap.size, 1, none⟩ (.string a2))) ?hg_q29 ?ho_q29 ?hn_q29 ?hr_q29 ?_; (case ho_q29 => rfl); (case hg_q29 => rfl); (case hn_q29 => rfl); (case hr_q29 => first | (go_simp; done) | (go_simp; rfl)); intro w9 hw; have HX9 := Aside0.mk (show w9.heap[w3.heap.size]? = some (.cells #[.string a2, .string a2, .bool false] 33 (0, 0)) by rw [hw]; exact blk_put HX7.out 1 _ rfl); have HG9 := Aside0.mk (show w9.heap[w.heap.size]? = some (.cells #[.string ⟨#[]⟩, .string ⟨#[]⟩, .bool false] 33 (0, 0)) by rw [hw]; exact blk_far HG7.out (Nat.ne_of_lt HSX.out) _); have HB9 := Aside0.mk (show Below w.heap.size w w9 by rw [hw]; exact below_set HB7.out (Nat.le_of_lt HSX.out)); clear hw HX7 HG7 HB7; (try clear x0 x1 x2); (try clear g0 g1 g2 f0 f1 f2); clear c_ f_; have x0 := cell_at HX9.out 0; have x1 := cell_at HX9.out 1; have x2 := cell_at HX9.out 2; have g0 := cell_at HG9.out 0; have g1 := cell_at HG9.out 1; have g2 := cell_at HG9.out 2; have f0 := free_at HG9.out 0; have f1 := free_at HG9.out 1; have f2 := free_at HG9.out 2; simp only [List.getElem?_toArray, List.getElem?_cons_zero, List.getElem?_cons_succ] at x0 x1 x2 g0 g1 g2) | ((with_reducible refine gate_store (t := 9) (p := 97) rfl ?_); have c_ := cell_at HX9.out 1; have f_ := free_at HX9.out 1; simp only [List.getElem?_toArray, List.getElem?_cons_zero, List.getElem?_cons_succ] at c_; refine store_event (t := 9) (p := 97) (v := ?vo_q30) (w1 := (w9.setCell ⟨w3.heap.size, 1, none⟩ (.string ⟨#[98, 111, 111, 108]⟩))) ?hg_q30 ?ho_q30 ?hn_q30 ?hr_q30 ?_; (case ho_q30 => rfl); (case hg_q30 => rfl); (case hn_q30 => rfl); (case hr_q30 => first | (go_simp; done) | (go_simp; rfl)); intro w10 hw; have HX10 := Aside0.mk (show w10.heap[w3.heap.size]? = some (.cells #[.string a2, .string ⟨#[98, 111, 111, 108]⟩, .bool false] 33 (0, 0)) by rw [hw]; exact blk_put HX9.out 1 _ rfl); have HG10 := Aside0.mk (show w10.heap[w.heap.size]? = some (.cells #[.string ⟨#[]⟩, .string ⟨#[]⟩, .bool false] 33 (0, 0)) by rw [hw]; exact blk_far HG9.out (Nat.ne_of_lt HSX.out) _); have HB10 := Aside0.mk (show Below w.heap.size w w10 by rw [hw]; exact below_set HB9.out (Nat.le_of_lt HSX.out)); clear hw HX9 HG9 HB9; (try clear x0 x1 x2); (try clear g0 g1 g2 f0 f1 f2); clear c_ f_; have x0 := cell_at HX10.out 0; have x1 := cell_at HX10.out 1; have x2 := cell_at HX10.out 2; have g0 := cell_at HG10.out 0; have g1 := cell_at HG10.out 1; have g2 := cell_at HG10.out 2; have f0 := free_at HG10.out 0; have f1 := free_at HG10.out 1; have f2 := free_at HG10.out 2; simp only [List.getElem?_toArray, List.getElem?_cons_zero, List.getElem?_cons_succ] at x0 x1 x2 g0 g1 g2))
           refine bodyPost_ret (results_ct rfl _ _ w.heap.size 33 #[.string a2, .string ⟨#[98, 111, 111, 108]⟩, .bool false] (0, 0) _ rfl ?_ Try.underlying33 rfl (by kernel_rfl)) rfl ⟨rfl, ?_⟩
           ·
            exact blk_put (blk_put (blk_put HG10.out 0 _ rfl) 1 _ rfl) 2 _ rfl
           ·
            exact below_set (below_set (below_set HB10.out (Nat.le_refl _)) (Nat.le_refl _)) (Nat.le_refl _)
         | false =>
          have h := H.out
          unfold chaperonref15_Bin.told at h
          rw [hlt, if_neg (by decide)] at h
          simp only [Option.some.injEq, Prod.mk.injEq] at h
          obtain ⟨rfl, rfl, rfl, rfl⟩ := h
          obtain ⟨q1, q2⟩ := Bool.or_eq_false_iff.1 hlt
          clear hlt H
          go_wp2_with (first | ((with_reducible refine gate_store (t := 9) (p := 78) rfl ?_); have c_ := cell_at HX5.out 0; have f_ := free_at HX5.out 0; simp only [List.getElem?_toArray, List.getElem?_cons_zero, List.getElem?_cons_succ] at c_; refine store_event (t := 9) (p := 78) (v := ?vo_q31) (w1 := (w5.setCell ⟨w3.heap.size, 0, none⟩ (.string a2))) ?hg_q31 ?ho_q31 ?hn_q31 ?hr_q31 ?_; (case ho_q31 => rfl); (case hg_q31 => rfl); (case hn_q31 => rfl); (case hr_q31 => first | (go_simp; done) | (go_simp; rfl)); intro w7 hw; have HX7 := Aside0.mk (show w7.heap[w3.heap.size]? = some (.cells #[.string a2, .string ⟨#[]⟩, .bool false] 33 (0, 0)) by rw [hw]; exact blk_put HX5.out 0 _ rfl); have HG7 := Aside0.mk (show w7.heap[w.heap.size]? = some (.cells #[.string ⟨#[]⟩, .string ⟨#[]⟩, .bool false] 33 (0, 0)) by rw [hw]; exact blk_far HG5.out (Nat.ne_of_lt HSX.out) _); have HB7 := Aside0.mk (show Below w.heap.size w w7 by rw [hw]; exact below_set HB5.out (Nat.le_of_lt HSX.out)); clear hw HX5 HG5 HB5; (try clear x0 x1 x2); (try clear g0 g1 g2 f0 f1 f2); clear c_ f_; have x0 := cell_at HX7.out 0; have x1 := cell_at HX7.out 1; have x2 := cell_at HX7.out 2; have g0 := cell_at HG7.out 0; have g1 := cell_at HG7.out 1; have g2 := cell_at HG7.out 2; have f0 := free_at HG7.out 0; have f1 := free_at HG7.out 1; have f2 := free_at HG7.out 2; simp only [List.getElem?_toArray, List.getElem?_cons_zero, List.getElem?_cons_succ] at x0 x1 x2 g0 g1 g2) | ((with_reducible refine gate_store (t := 9) (p := 90) rfl ?_); have c_ := cell_at HX7.out 1; have f_ := free_at HX7.out 1; simp only [List.getElem?_toArray, List.getElem?_cons_zero, List.getElem?_cons_succ] at c_; refine store_event (t := 9) (p := 90) (v := ?vo_q32) (w1 := (w7.setCell ⟨w3.heap.size, 1, none⟩ (.string a2))) ?hg_q32 ?ho_q32 ?hn_q32 ?hr_q32 ?_; (case ho_q32 => rfl); (case hg_q32 => rfl); (case hn_q32 => rfl); (case hr_q32 => first | (go_simp; done) | (go_simp; rfl)); intro w9 hw; have HX9 := Aside0.mk (show w9.heap[w3.heap.size]? = some (.cells #[.string a2, .string a2, .bool false] 33 (0, 0)) by rw [hw]; exact blk_put HX7.out 1 _ rfl); have HG9 := Aside0.mk (show w9.heap[w.heap.size]? = some (.cells #[.string ⟨#[]⟩, .string ⟨#[]⟩, .bool false] 33 (0, 0)) by rw [hw]; exact blk_far HG7.out (Nat.ne_of_lt HSX.out) _); have HB9 := Aside0.mk (show Below w.heap.size w w9 by rw [hw]; exact below_set HB7.out (Nat.le_of_lt HSX.out)); clear hw HX7 HG7 HB7; (try clear x0 x1 x2); (try clear g0 g1 g2 f0 f1 f2); clear c_ f_; have x0 := cell_at HX9.out 0; have x1 := cell_at HX9.out 1; have x2 := cell_at HX9.out 2; have g0 := cell_at HG9.out 0; have g1 := cell_at HG9.out 1; have g2 := cell_at HG9.out 2; have f0 := free_at HG9.out 0; have f1 := free_at HG9.out 1; have f2 := free_at HG9.out 2; simp only [List.getElem?_toArray, List.getElem?_cons_zero, List.getElem?_cons_succ] at x0 x1 x2 g0 g1 g2))
          refine bodyPost_ret (results_ct rfl _ _ w.heap.size 33 #[.string a2, .string a2, .bool false] (0, 0) _ rfl ?_ Try.underlying33 rfl (by kernel_rfl)) rfl ⟨rfl, ?_⟩
          ·
           exact blk_put (blk_put (blk_put HG9.out 0 _ rfl) 1 _ rfl) 2 _ rfl
          ·
           exact below_set (below_set (below_set HB9.out (Nat.le_refl _)) (Nat.le_refl _)) (Nat.le_refl _)
        | false =>
         have h := H.out
         rw [if_neg (by decide)] at h
         cases e2 : (a2.toList == ([63] : List UInt8)) with
         | true =>
          rw [e2, if_pos rfl] at h
          have H := Aside0.mk h
          clear h
          cases hlt : chaperonref15_Bin.lt a0 with
          | true =>
           have h := H.out
           unfold chaperonref15_Bin.told at h
           rw [hlt, if_pos rfl] at h
           simp only [Option.some.injEq, Prod.mk.injEq] at h
           obtain ⟨rfl, rfl, rfl, rfl⟩ := h
           rcases chaperonref15_Bin.or_cases hlt with q1 | ⟨q1, q2⟩
           ·
            clear hlt H
            go_wp2_with (first | ((with_reducible refine gate_store (t := 9) (p := 86) rfl ?_); have c_ := cell_at HX5.out 0; have f_ := free_at HX5.out 0; simp only [List.getElem?_toArray, List.getElem?_cons_zero, List.getElem?_cons_succ] at c_; refine store_event (t := 9) (p := 86) (v := ?vo_q33) (w1 := (w5.setCell ⟨w3.heap.size, 0, none⟩ (.string ⟨#[63]⟩))) ?hg_q33 ?ho_q33 ?hn_q33 ?hr_q33 ?_; (case ho_q33 => rfl); (case hg_q33 => rfl); (case hn_q33 => rfl); (case hr_q33 => first | (go_simp; done) | (go_simp; rfl)); intro w7 hw; have HX7 := Aside0.mk (show w7.heap[w3.heap.size]? = some (.cells #[.string ⟨#[63]⟩, .string ⟨#[]⟩, .bool false] 33 (0, 0)) by rw [hw]; exact blk_put HX5.out 0 _ rfl); have HG7 := Aside0.mk (show w7.heap[w.heap.size]? = some (.cells #[.string ⟨#[]⟩, .string ⟨#[]⟩, .bool false] 33 (0, 0)) by rw [hw]; exact blk_far HG5.out (Nat.ne_of_lt HSX.out) _); have HB7 := Aside0.mk (show Below w.heap.size w w7 by rw [hw]; exact below_set HB5.out (Nat.le_of_lt HSX.out)); clear hw HX5 HG5 HB5; (try clear x0 x1 x2); (try clear g0 g1 g2 f0 f1 f2); clear c_ f_; have x0 := cell_at HX7.out 0; have x1 := cell_at HX7.out 1; have x2 := cell_at HX7.out 2; have g0 := cell_at HG7.out 0; have g1 := cell_at HG7.out 1; have g2 := cell_at HG7.out 2; have f0 := free_at HG7.out 0; have f1 := free_at HG7.out 1; have f2 := free_at HG7.out 2; simp only [List.getElem?_toArray, List.getElem?_cons_zero, List.getElem?_cons_succ] at x0 x1 x2 g0 g1 g2) | ((with_reducible refine gate_store (t := 4) (p := 87) rfl ?_); have c_ := cell_at HX7.out 2; have f_ := free_at HX7.out 2; simp only [List.getElem?_toArray, List.getElem?_cons_zero, List.getElem?_cons_succ] at c_; refine store_event (t := 4) (p := 87) (v := ?vo_q34) (w1 := (w7.setCell ⟨w3.heap.size, 2, none⟩ (.bool true))) ?hg_q34 ?ho_q34 ?hn_q34 ?hr_q34 ?_; (case ho_q34 => rfl); (case hg_q34 => rfl); (case hn_q34 => rfl); (case hr_q34 => first | (go_simp; done) | (go_simp; rfl)); intro w8 hw; have HX8 := Aside0.mk (show w8.heap[w3.heap.size]? = some (.cells #[.string ⟨#[63]⟩, .string ⟨#[]⟩, .bool true] 33 (0, 0)) by rw [hw]; exact blk_put HX7.out 2 _ rfl); have HG8 := Aside0.mk (show w8.heap[w.heap.size]? = some (.cells #[.string ⟨#[]⟩, .string ⟨#[]⟩, .bool false] 33 (0, 0)) by rw [hw]; exact blk_far HG7.out (Nat.ne_of_lt HSX.out) _); have HB8 := Aside0.mk (show Below w.heap.size w w8 by rw [hw]; exact below_set HB7.out (Nat.le_of_lt HSX.out)); clear hw HX7 HG7 HB7; (try clear x0 x1 x2); (try clear g0 g1 g2 f0 f1 f2); clear c_ f_; have x0 := cell_at HX8.out 0; have x1 := cell_at HX8.out 1; have x2 := cell_at HX8.out 2; have g0 := cell_at HG8.out 0; have g1 := cell_at HG8.out 1; have g2 := cell_at HG8.out 2; have f0 := free_at HG8.out 0; have f1 := free_at HG8.out 1; have f2 := free_at HG8.out 2; simp only [List.getElem?_toArray, List.getElem?_cons_zero, List.getElem?_cons_succ] at x0 x1 x2 g0 g1 g2) | ((with_reducible refine gate_store (t := 9) (p := 90) rfl ?_); have c_ := cell_at HX8.out 1; have f_ := free_at HX8.out 1; simp only [List.getElem?_toArray, List.getElem?_cons_zero, List.getElem?_cons_succ] at c_; refine store_event (t := 9) (p := 90) (v := ?vo_q35) (w1 := (w8.setCell ⟨w3.heap.size, 1, none⟩ (.string ⟨#[63]⟩))) ?hg_q35 ?ho_q35 ?hn_q35 ?hr_q35 ?_; (case ho_q35 => rfl); (case hg_q35 => rfl); (case hn_q35 => rfl); (case hr_q35 => first | (go_simp; done) | (go_simp; rfl)); intro w9 hw; have HX9 := Aside0.mk (show w9.heap[w3.heap.size]? = some (.cells #[.string ⟨#[63]⟩, .string ⟨#[63]⟩, .bool true] 33 (0, 0)) by rw [hw]; exact blk_put HX8.out 1 _ rfl); have HG9 := Aside0.mk (show w9.heap[w.heap.size]? = some (.cells #[.string ⟨#[]⟩, .string ⟨#[]⟩, .bool false] 33 (0, 0)) by rw [hw]; exact blk_far HG8.out (Nat.ne_of_lt HSX.out) _); have HB9 := Aside0.mk (show Below w.heap.size w w9 by rw [hw]; exact below_set HB8.out (Nat.le_of_lt HSX.out)); clear hw HX8 HG8 HB8; (try clear x0 x1 x2); (try clear g0 g1 g2 f0 f1 f2); clear c_ f_; have x0 := cell_at HX9.out 0; have x1 := cell_at HX9.out 1; have x2 := cell_at HX9.out 2; have g0 := cell_at HG9.out 0; have g1 := cell_at HG9.out 1; have g2 := cell_at HG9.out 2; have f0 := free_at HG9.out 0; have f1 := free_at HG9.out 1; have f2 := free_at HG9.out 2; simp only [List.getElem?_toArray, List.getElem?_cons_zero, List.getElem?_cons_succ] at x0 x1 x2 g0 g1 g2) | ((with_reducible refine gate_store (t := 9) (p := 97) rfl ?_); have c_ := cell_at HX9.out 1; have f_ := free_at HX9.out 1; simp only [List.getElem?_toArray, List.getElem?_cons_zero, List.getElem?_cons_succ] at c_; refine store_event (t := 9) (p := 97) (v := ?vo_q36) (w1 := (w9.setCell ⟨w3.heap.size, 1, none⟩ (.string ⟨#[98, 111, 111, 108]⟩))) ?hg_q36 ?ho_q36 ?hn_q36 ?hr_q36 ?_; (case ho_q36 => rfl); (case hg_q36 => rfl); (case hn_q36 => rfl); (case hr_q36 => first | (go_simp; done) | (go_simp; rfl)); intro w10 hw; have HX10 := Aside0.mk (show w10.heap[w3.heap.size]? = some (.cells #[.string ⟨#[63]⟩, .string ⟨#[98, 111, 111, 108]⟩, .bool true] 33 (0, 0)) by rw [hw]; exact blk_put HX9.out 1 _ rfl); have HG10 := Aside0.mk (show w10.heap[w.heap.size]? = some (.cells #[.string ⟨#[]⟩, .string ⟨#[]⟩, .bool false] 33 (0, 0)) by rw [hw]; exact blk_far HG9.out (Nat.ne_of_lt HSX.out) _); have HB10 := Aside0.mk (show Below w.heap.size w w10 by rw [hw]; exact below_set HB9.out (Nat.le_of_lt HSX.out)); clear hw HX9 HG9 HB9; (try clear x0 x1 x2); (try clear g0 g1 g2 f0 f1 f2); clear c_ f_; have x0 := cell_at HX10.out 0; have x1 := cell_at HX10.out 1; have x2 := cell_at HX10.out 2; have g0 := cell_at HG10.out 0; have g1 := cell_at HG10.out 1; have g2 := cell_at HG10.out 2; have f0 := free_at HG10.out 0; have f1 := free_at HG10.out 1; have f2 := free_at HG10.out 2; simp only [List.getElem?_toArray, List.getElem?_cons_zero, List.getElem?_cons_succ] at x0 x1 x2 g0 g1 g2))
            refine bodyPost_ret (results_ct rfl _ _ w.heap.size 33 #[.string ⟨#[63]⟩, .string ⟨#[98, 111, 111, 108]⟩, .bool true] (0, 0) _ rfl ?_ Try.underlying33 rfl (by kernel_rfl)) rfl ⟨rfl, ?_⟩
            ·
             exact blk_put (blk_put (blk_put HG10.out 0 _ rfl) 1 _ rfl) 2 _ rfl
            ·
             exact below_set (below_set (below_set HB10.out (Nat.le_refl _)) (Nat.le_refl _)) (Nat.le_refl _)
           ·
            clear hlt H
            go_wp2_with (first | ((with_reducible refine gate_store (t := 9) (p := 86) rfl ?_); have c_ := cell_at HX5.out 0; have f_ := free_at HX5.out 0; simp only [List.getElem?_toArray, List.getElem?_cons_zero, List.getElem?_cons_succ] at c_; refine store_event (t := 9) (p := 86) (v := ?vo_q37) (w1 := (w5.setCell ⟨w3.heap.size, 0, none⟩ (.string ⟨#[63]⟩))) ?hg_q37 ?ho_q37 ?hn_q37 ?hr_q37 ?_; (case ho_q37 => rfl); (case hg_q37 => rfl); (case hn_q37 => rfl); (case hr_q37 => first | (go_simp; done) | (go_simp; rfl)); intro w7 hw; have HX7 := Aside0.mk (show w7.heap[w3.heap.size]? = some (.cells #[.string ⟨#[63]⟩, .string ⟨#[]⟩, .bool false] 33 (0, 0)) by rw [hw]; exact blk_put HX5.out 0 _ rfl); have HG7 := Aside0.mk (show w7.heap[w.heap.size]? = some (.cells #[.string ⟨#[]⟩, .string ⟨#[]⟩, .bool false] 33 (0, 0)) by rw [hw]; exact blk_far HG5.out (Nat.ne_of_lt HSX.out) _); have HB7 := Aside0.mk (show Below w.heap.size w w7 by rw [hw]; exact below_set HB5.out (Nat.le_of_lt HSX.out)); clear hw HX5 HG5 HB5; (try clear x0 x1 x2); (try clear g0 g1 g2 f0 f1 f2); clear c_ f_; have x0 := cell_at HX7.out 0; have x1 := cell_at HX7.out 1; have x2 := cell_at HX7.out 2; have g0 := cell_at HG7.out 0; have g1 := cell_at HG7.out 1; have g2 := cell_at HG7.out 2; have f0 := free_at HG7.out 0; have f1 := free_at HG7.out 1; have f2 := free_at HG7.out 2; simp only [List.getElem?_toArray, List.getElem?_cons_zero, List.getElem?_cons_succ] at x0 x1 x2 g0 g1 g2) | ((with_reducible refine gate_store (t := 4) (p := 87) rfl ?_); have c_ := cell_at HX7.out 2; have f_ := free_at HX7.out 2; simp only [List.getElem?_toArray, List.getElem?_cons_zero, List.getElem?_cons_succ] at c_; refine store_event (t := 4) (p := 87) (v := ?vo_q38) (w1 := (w7.setCell ⟨w3.heap.size, 2, none⟩ (.bool true))) ?hg_q38 ?ho_q38 ?hn_q38 ?hr_q38 ?_; (case ho_q38 => rfl); (case hg_q38 => rfl); (case hn_q38 => rfl); (case hr_q38 => first | (go_simp; done) | (go_simp; rfl)); intro w8 hw; have HX8 := Aside0.mk (show w8.heap[w3.heap.size]? = some (.cells #[.string ⟨#[63]⟩, .string ⟨#[]⟩, .bool true] 33 (0, 0)) by rw [hw]; exact blk_put HX7.out 2 _ rfl); have HG8 := Aside0.mk (show w8.heap[w.heap.size]? = some (.cells #[.string ⟨#[]⟩, .string ⟨#[]⟩, .bool false] 33 (0, 0)) by rw [hw]; exact blk_far HG7.out (Nat.ne_of_lt HSX.out) _); have HB8 := Aside0.mk (show Below w.heap.size w w8 by rw [hw]; exact below_set HB7.out (Nat.le_of_lt HSX.out)); clear hw HX7 HG7 HB7; (try clear x0 x1 x2); (try clear g0 g1 g2 f0 f1 f2); clear c_ f_; have x0 := cell_at HX8.out 0; have x1 := cell_at HX8.out 1; have x2 := cell_at HX8.out 2; have g0 := cell_at HG8.out 0; have g1 := cell_at HG8.out 1; have g2 := cell_at HG8.out 2; have f0 := free_at HG8.out 0; have f1 := free_at HG8.out 1; have f2 := free_at HG8.out 2; simp only [List.getElem?_toArray, List.getElem?_cons_zero, List.getElem?_cons_succ] at x0 x1 x2 g0 g1 g2) | ((with_reducible refine gate_store (t := 9) (p := 90) rfl ?_); have c_ := cell_at HX8.out 1; have f_ := free_at HX8.out 1; simp only [List.getElem?_toArray, List.getElem?_cons_zero, List.getElem?_cons_succ] at c_; refine store_event (t := 9) (p := 90) (v := ?vo_q39) (w1 := (w8.setCell ⟨w3.heap.size, 1, none⟩ (.string ⟨#[63]⟩))) ?hg_q39 ?ho_q39 ?hn_q39 ?hr_q39 ?_; (case ho_q39 => rfl); (case hg_q39 => rfl); (case hn_q39 => rfl); (case hr_q39 => first | (go_simp; done) | (go_simp; rfl)); intro w9 hw; have HX9 := Aside0.mk (show w9.heap[w3.heap.size]? = some (.cells #[.string ⟨#[63]⟩, .string ⟨#[63]⟩, .bool true] 33 (0, 0)) by rw [hw]; exact blk_put HX8.out 1 _ rfl); have HG9 := Aside0.mk (show w9.heap[w.heap.size]? = some (.cells #[.string ⟨#[]⟩, .string ⟨#[]⟩, .bool false] 33 (0, 0)) by rw [hw]; exact blk_far HG8.out (Nat.ne_of_lt HSX.out) _); have HB9 := Aside0.mk (show Below w.heap.size w w9 by rw [hw]; exact below_set HB8.out (Nat.le_of_lt HSX.out)); clear hw HX8 HG8 HB8; (try clear x0 x1 x2); (try clear g0 g1 g2 f0 f1 f2); clear c_ f_; have x0 := cell_at HX9.out 0; have x1 := cell_at HX9.out 1; have x2 := cell_at HX9.out 2; have g0 := cell_at HG9.out 0; have g1 := cell_at HG9.out 1; have g2 := cell_at HG9.out 2; have f0 := free_at HG9.out 0; have f1 := free_at HG9.out 1; have f2 := free_at HG9.out 2; simp only [List.getElem?_toArray, List.getElem?_cons_zero, List.getElem?_cons_succ] at x0 x1 x2 g0 g1 g2) | ((with_reducible refine gate_store (t := 9) (p := 97) rfl ?_); have c_ := cell_at HX9.out 1; have f_ := free_at HX9.out 1; simp only [List.getElem?_toArray, List.getElem?_cons_zero, List.getElem?_cons_succ] at c_; refine store_event (t := 9) (p := 97) (v := ?vo_q40) (w1 := (w9.setCell ⟨w3.heap.size, 1, none⟩ (.string ⟨#[98, 111, 111, 108]⟩))) ?hg_q40 ?ho_q40 ?hn_q40 ?hr_q40 ?_; (case ho_q40 => rfl); (case hg_q40 => rfl); (case hn_q40 => rfl); (case hr_q40 => first | (go_simp; done) | (go_simp; rfl)); intro w10 hw; have HX10 := Aside0.mk (show w10.heap[w3.heap.size]? = some (.cells #[.string ⟨#[63]⟩, .string ⟨#[98, 111, 111, 108]⟩, .bool true] 33 (0, 0)) by rw [hw]; exact blk_put HX9.out 1 _ rfl); have HG10 := Aside0.mk (show w10.heap[w.heap.size]? = some (.cells #[.string ⟨#[]⟩, .string ⟨#[]⟩, .bool false] 33 (0, 0)) by rw [hw]; exact blk_far HG9.out (Nat.ne_of_lt HSX.out) _); have HB10 := Aside0.mk (show Below w.heap.size w w10 by rw [hw]; exact below_set HB9.out (Nat.le_of_lt HSX.out)); clear hw HX9 HG9 HB9; (try clear x0 x1 x2); (try clear g0 g1 g2 f0 f1 f2); clear c_ f_; have x0 := cell_at HX10.out 0; have x1 := cell_at HX10.out 1; have x2 := cell_at HX10.out 2; have g0 := cell_at HG10.out 0; have g1 := cell_at HG10.out 1; have g2 := cell_at HG10.out 2; have f0 := free_at HG10.out 0; have f1 := free_at HG10.out 1; have f2 := free_at HG10.out 2; simp only [List.getElem?_toArray, List.getElem?_cons_zero, List.getElem?_cons_succ] at x0 x1 x2 g0 g1 g2))
            refine bodyPost_ret (results_ct rfl _ _ w.heap.size 33 #[.string ⟨#[63]⟩, .string ⟨#[98, 111, 111, 108]⟩, .bool true] (0, 0) _ rfl ?_ Try.underlying33 rfl (by kernel_rfl)) rfl ⟨rfl, ?_⟩
            ·
             exact blk_put (blk_put (blk_put HG10.out 0 _ rfl) 1 _ rfl) 2 _ rfl
            ·
             exact below_set (below_set (below_set HB10.out (Nat.le_refl _)) (Nat.le_refl _)) (Nat.le_refl _)
          | false =>
           have h := H.out
           unfold chaperonref15_Bin.told at h
           rw [hlt, if_neg (by decide)] at h
           simp only [Option.some.injEq, Prod.mk.injEq] at h
           obtain ⟨rfl, rfl, rfl, rfl⟩ := h
           obtain ⟨q1, q2⟩ := Bool.or_eq_false_iff.1 hlt
           clear hlt H
           go_wp2_with (first | ((with_reducible refine gate_store (t := 9) (p := 86) rfl ?_); have c_ := cell_at HX5.out 0; have f_ := free_at HX5.out 0; simp only [List.getElem?_toArray, List.getElem?_cons_zero, List.getElem?_cons_succ] at c_; refine store_event (t := 9) (p := 86) (v := ?vo_q41) (w1 := (w5.setCell ⟨w3.heap.size, 0, none⟩ (.string ⟨#[63]⟩))) ?hg_q41 ?ho_q41 ?hn_q41 ?hr_q41 ?_; (case ho_q41 => rfl); (case hg_q41 => rfl); (case hn_q41 => rfl); (case hr_q41 => first | (go_simp; done) | (go_simp; rfl)); intro w7 hw; have HX7 := Aside0.mk (show w7.heap[w3.heap.size]? = some (.cells #[.string ⟨#[63]⟩, .string ⟨#[]⟩, .bool false] 33 (0, 0)) by rw [hw]; exact blk_put HX5.out 0 _ rfl); have HG7 := Aside0.mk (show w7.heap[w.heap.size]? = some (.cells #[.string ⟨#[]⟩, .string ⟨#[]⟩, .bool false] 33 (0, 0)) by rw [hw]; exact blk_far HG5.out (Nat.ne_of_lt HSX.out) _); have HB7 := Aside0.mk (show Below w.heap.size w w7 by rw [hw]; exact below_set HB5.out (Nat.le_of_lt HSX.out)); clear hw HX5 HG5 HB5; (try clear x0 x1 x2); (try clear g0 g1 g2 f0 f1 f2); clear c_ f_; have x0 := cell_at HX7.out 0; have x1 := cell_at HX7.out 1; have x2 := cell_at HX7.out 2; have g0 := cell_at HG7.out 0; have g1 := cell_at HG7.out 1; have g2 := cell_at HG7.out 2; have f0 := free_at HG7.out 0; have f1 := free_at HG7.out 1; have f2 := free_at HG7.out 2; simp only [List.getElem?_toArray, List.getElem?_cons_zero, List.getElem?_cons_succ] at x0 x1 x2 g0 g1 g2) | ((with_reducible refine gate_store (t := 4) (p := 87) rfl ?_); have c_ := cell_at HX7.out 2; have f_ := free_at HX7.out 2; simp only [List.getElem?_toArray, List.getElem?_cons_zero, List.getElem?_cons_succ] at c_; refine store_event (t := 4) (p := 87) (v := ?vo_q42) (w1 := (w7.setCell ⟨w3.heap.size, 2, none⟩ (.bool true))) ?hg_q42 ?ho_q42 ?hn_q42 ?hr_q42 ?_; (case ho_q42 => rfl); (case hg_q42 => rfl); (case hn_q42 => rfl); (case hr_q42 => first | (go_simp; done) | (go_simp; rfl)); intro w8 hw; have HX8 := Aside0.mk (show w8.heap[w3.heap.size]? = some (.cells #[.string ⟨#[63]⟩, .string ⟨#[]⟩, .bool true] 33 (0, 0)) by rw [hw]; exact blk_put HX7.out 2 _ rfl); have HG8 := Aside0.mk (show w8.heap[w.heap.size]? = some (.cells #[.string ⟨#[]⟩, .string ⟨#[]⟩, .bool false] 33 (0, 0)) by rw [hw]; exact blk_far HG7.out (Nat.ne_of_lt HSX.out) _); have HB8 := Aside0.mk (show Below w.heap.size w w8 by rw [hw]; exact below_set HB7.out (Nat.le_of_lt HSX.out)); clear hw HX7 HG7 HB7; (try clear x0 x1 x2); (try clear g0 g1 g2 f0 f1 f2); clear c_ f_; have x0 := cell_at HX8.out 0; have x1 := cell_at HX8.out 1; have x2 := cell_at HX8.out 2; have g0 := cell_at HG8.out 0; have g1 := cell_at HG8.out 1; have g2 := cell_at HG8.out 2; have f0 := free_at HG8.out 0; have f1 := free_at HG8.out 1; have f2 := free_at HG8.out 2; simp only [List.getElem?_toArray, List.getElem?_cons_zero, List.getElem?_cons_succ] at x0 x1 x2 g0 g1 g2) | ((with_reducible refine gate_store (t := 9) (p := 90) rfl ?_); have c_ := cell_at HX8.out 1; have f_ := free_at HX8.out 1; simp only [List.getElem?_toArray, List.getElem?_cons_zero, List.getElem?_cons_succ] at c_; refine store_event (t := 9) (p := 90) (v := ?vo_q43) (w1 := (w8.setCell ⟨w3.heap.size, 1, none⟩ (.string ⟨#[63]⟩))) ?hg_q43 ?ho_q43 ?hn_q43 ?hr_q43 ?_; (case ho_q43 => rfl); (case hg_q43 => rfl); (case hn_q43 => rfl); (case hr_q43 => first | (go_simp; done) | (go_simp; rfl)); intro w9 hw; have HX9 := Aside0.mk (show w9.heap[w3.heap.size]? = some (.cells #[.string ⟨#[63]⟩, .string ⟨#[63]⟩, .bool true] 33 (0, 0)) by rw [hw]; exact blk_put HX8.out 1 _ rfl); have HG9 := Aside0.mk (show w9.heap[w.heap.size]? = some (.cells #[.string ⟨#[]⟩, .string ⟨#[]⟩, .bool false] 33 (0, 0)) by rw [hw]; exact blk_far HG8.out (Nat.ne_of_lt HSX.out) _); have HB9 := Aside0.mk (show Below w.heap.size w w9 by rw [hw]; exact below_set HB8.out (Nat.le_of_lt HSX.out)); clear hw HX8 HG8 HB8; (try clear x0 x1 x2); (try clear g0 g1 g2 f0 f1 f2); clear c_ f_; have x0 := cell_at HX9.out 0; have x1 := cell_at HX9.out 1; have x2 := cell_at HX9.out 2; have g0 := cell_at HG9.out 0; have g1 := cell_at HG9.out 1; have g2 := cell_at HG9.out 2; have f0 := free_at HG9.out 0; have f1 := free_at HG9.out 1; have f2 := free_at HG9.out 2; simp only [List.getElem?_toArray, List.getElem?_cons_zero, List.getElem?_cons_succ] at x0 x1 x2 g0 g1 g2))
           refine bodyPost_ret (results_ct rfl _ _ w.heap.size 33 #[.string ⟨#[63]⟩, .string ⟨#[63]⟩, .bool true] (0, 0) _ rfl ?_ Try.underlying33 rfl (by kernel_rfl)) rfl ⟨rfl, ?_⟩
           ·
            exact blk_put (blk_put (blk_put HG9.out 0 _ rfl) 1 _ rfl) 2 _ rfl
           ·
            exact below_set (below_set (below_set HB9.out (Nat.le_refl _)) (Nat.le_refl _)) (Nat.le_refl _)
         | false =>
          rw [e2, if_neg (by decide)] at h
          have H := Aside0.mk h
          clear h
          have h := H.out
          simp only [chaperonref15_Bin.no, Option.some.injEq, Prod.mk.injEq] at h
          obtain ⟨rfl, rfl, rfl, rfl⟩ := h
          have g0 := cell_at HG5.out 0
          have f0 := free_at HG5.out 0
          have g1 := cell_at HG5.out 1
          have f1 := free_at HG5.out 1
          have g2 := cell_at HG5.out 2
          have f2 := free_at HG5.out 2
          simp only [List.getElem?_toArray, List.getElem?_cons_zero, List.getElem?_cons_succ] at g0 g1 g2
          go_wp2_with fail
          refine bodyPost_ret (results_ct rfl _ _ w.heap.size 33 #[.string ⟨#[]⟩, .string ⟨#[]⟩, .bool false] (0, 0) _ rfl ?_ Try.underlying33 rfl (by kernel_rfl)) rfl ⟨rfl, ?_⟩
          ·
           exact blk_put (blk_put (blk_put HG5.out 0 _ rfl) 1 _ rfl) 2 _ rfl
          ·
           exact below_set (below_set (below_set HB5.out (Nat.le_refl _)) (Nat.le_refl _)) (Nat.le_refl _)

end Go.Proofs.Ytnefifgfpljlkaa.PAll
