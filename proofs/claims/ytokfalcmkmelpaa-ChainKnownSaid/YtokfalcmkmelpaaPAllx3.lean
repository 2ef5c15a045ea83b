-- WRITTEN BY hand.py of this session, over the kit's print: a text of this seat
import Derived.Test.YtokfalcmkmelpaaPAllx0
import Derived.Test.YtokfalcmkmelpaaPAllx2
namespace Go.Proofs.Ytokfalcmkmelpaa.PAll
open Go.RowKit Go.Proofs.YtokfalcmkmelpaaW.PrintWords Go.Proofs.YtokfalcmkmelpaaW.PrintLast Go.Proofs.YtokfalcmkmelpaaW.PrintMore
attribute [local go_sem] max2_int min2_int max_two min_two max_three min_three max_four min_four   -- for this text's walks alone
set_option linter.unusedVariables false
set_option linter.unusedSimpArgs false

/-! ### chaperonlaw10_awake: function 10 -/
def chaperonlaw10_awake.f (k : Nat) : Option Bool := some true
theorem chaperonlaw10_awake.mono : ∀ k, LeO (chaperonlaw10_awake.f k) (chaperonlaw10_awake.f (k + 1)) := fun _ => LeO.refl _
def chaperonlaw10_awake.l7 : List S37 := [⟨true, ⟨#[67]⟩, 1⟩, ⟨true, ⟨#[68]⟩, 2⟩, ⟨true, ⟨#[67]⟩, 3⟩, ⟨true, ⟨#[68]⟩, 4⟩, ⟨true, ⟨#[67]⟩, 5⟩, ⟨true, ⟨#[68]⟩, 6⟩, ⟨true, ⟨#[67]⟩, 7⟩]
def chaperonlaw10_awake.l6 : List S37 := [⟨true, ⟨#[67]⟩, 1⟩, ⟨true, ⟨#[68]⟩, 2⟩, ⟨true, ⟨#[67]⟩, 3⟩, ⟨true, ⟨#[67]⟩, 5⟩, ⟨true, ⟨#[68]⟩, 6⟩, ⟨true, ⟨#[67]⟩, 7⟩]
def chaperonlaw10_awake.l3 : List S37 := [(⟨true, ⟨#[67]⟩, 1⟩ : S37), (⟨true, ⟨#[67]⟩, 2⟩ : S37), (⟨true, ⟨#[67]⟩, 3⟩ : S37)]
def chaperonlaw10_awake.l2 : List S37 := [(⟨true, ⟨#[67]⟩, 1⟩ : S37), (⟨true, ⟨#[67]⟩, 3⟩ : S37)]
theorem chaperonlaw10_awake.n1 : chaperonlaw10_norms.f 10 chaperonlaw10_awake.l3 chaperonlaw10_awake.l2 = some true := by kernel_rfl
theorem chaperonlaw10_awake.n2 : chaperonlaw10_norms.f 10 chaperonlaw10_awake.l7 chaperonlaw10_awake.l6 = some true := by kernel_rfl
theorem chaperonlaw10_awake.t7 : chaperonlaw10_turns.f 10 7 = some chaperonlaw10_awake.l7 := by kernel_rfl
open Go.Proofs.YtokfalcmkmelpaaRF Go.Proofs.YtokfalcmkmelpaaRG in
set_option maxHeartbeats 2000000 in
set_option maxRecDepth 100000 in
theorem chaperonlaw10_awake.calls (k : Nat) (r : Bool) (w : World) (h : chaperonlaw10_awake.f k = some r) :
    Calls Try.prog 10 #[] w fun e w' => e = .returned (.bool r) ∧ Below w.heap.size w w' := by
  obtain rfl : true = r := Option.some.inj h
  clear h
  have hu := Try.underlying37
  go_enter Try.func10, Try.ntmps10
  go_wp2_with fail
  refine (chain_Bound.calls 1 12 0 _ (by kernel_rfl)).mono ?_
  rintro e w1 ⟨rfl, hd1⟩
  have HB1 := Aside0.mk (show Below w.heap.size w w1 from hd1.below)
  clear hd1
  go_wp2_with fail
  refine (chaperonlaw10_turns.calls 10 7 chaperonlaw10_awake.l7 _ chaperonlaw10_awake.t7).mono ?_
  rintro e w2 ⟨v, rfl, hr2, hb2⟩
  have HB2 := Aside0.mk (HB1.out.trans (hb2.mono HB1.out.size))
  obtain ⟨A, c, rfl, hc, hC⟩ := Kd.R_reads hr2
  have HC := Aside0.mk hC
  have HCC := Aside0.mk hc
  clear hr2 hb2 hC hc HB1
  rw [show chaperonlaw10_awake.l7.length = 7 from rfl] at HC HCC ⊢
  go_wp2_with fail
  replace HC := Aside0.mk (Kd.C_drew HC.out)
  refine rg_region (N := 48) 39 Grows (by kernel_rfl) (by kernel_rfl) rfl Grows.refl Grows.trans ?_
  rw [show List.range 39 = [0, 1, 2, 3, 4, 5, 6, 7, 8, 9, 10, 11, 12, 13, 14, 15, 16, 17, 18, 19, 20, 21, 22, 23, 24, 25, 26, 27, 28, 29, 30, 31, 32, 33, 34, 35, 36, 37, 38] from rfl]
  refine rg_call (fun v _ => v = .agg #[.bool true, .string ⟨#[67]⟩, .int .i64 1]) (fun _ _ _ _ h => h) rfl rfl Try.func30 (by kernel_rfl) rfl (fun _ _ _ _ => wanted_none rfl) ?_ ?_
  · intro a w' hr hs
    rw [show (#[Operand.const (.string ⟨#[67]⟩), Operand.const (.int .i64 1)] : Array Operand).map a.eval = #[.string ⟨#[67]⟩, .int .i64 1] by simp [Act.eval]]
    refine (chaperonlaw10_out.calls ⟨#[67]⟩ 1 true ⟨#[67]⟩ 1 _ rfl).mono ?_
    rintro e w3 ⟨rfl, hb⟩
    exact ⟨_, rfl, hb, rfl⟩
  refine rg_call (fun v _ => v = .agg #[.bool true, .string ⟨#[67]⟩, .int .i64 2]) (fun _ _ _ _ h => h) rfl rfl Try.func30 (by kernel_rfl) rfl (fun _ _ _ _ => wanted_none rfl) ?_ ?_
  · intro a w' hr hs
    rw [show (#[Operand.const (.string ⟨#[67]⟩), Operand.const (.int .i64 2)] : Array Operand).map a.eval = #[.string ⟨#[67]⟩, .int .i64 2] by simp [Act.eval]]
    refine (chaperonlaw10_out.calls ⟨#[67]⟩ 2 true ⟨#[67]⟩ 2 _ rfl).mono ?_
    rintro e w3 ⟨rfl, hb⟩
    exact ⟨_, rfl, hb, rfl⟩
  refine rg_call (fun v _ => v = .agg #[.bool true, .string ⟨#[67]⟩, .int .i64 3]) (fun _ _ _ _ h => h) rfl rfl Try.func30 (by kernel_rfl) rfl (fun _ _ _ _ => wanted_none rfl) ?_ ?_
  · intro a w' hr hs
    rw [show (#[Operand.const (.string ⟨#[67]⟩), Operand.const (.int .i64 3)] : Array Operand).map a.eval = #[.string ⟨#[67]⟩, .int .i64 3] by simp [Act.eval]]
    refine (chaperonlaw10_out.calls ⟨#[67]⟩ 3 true ⟨#[67]⟩ 3 _ rfl).mono ?_
    rintro e w3 ⟨rfl, hb⟩
    exact ⟨_, rfl, hb, rfl⟩
  refine rg_lit k37 37 chaperonlaw10_awake.l3 rfl rfl (fun _ _ _ _ => wanted_none rfl) (by decide) ?_ ?_
  · intro a w' hr hs
    have h0 := hs.get 2 rfl (by kernel_rfl) rfl
    have h1 := hs.get 1 rfl (by kernel_rfl) rfl
    have h2 := hs.get 0 rfl (by kernel_rfl) rfl
    simp only at h0 h1 h2
    refine ⟨[.bool true, .string ⟨#[67]⟩, .int .i64 1, .bool true, .string ⟨#[67]⟩, .int .i64 2, .bool true, .string ⟨#[67]⟩, .int .i64 3], by go_simp; rfl, ?_⟩
    exact Reps.c3 (show Kd.M k37 _ _ _ (⟨true, ⟨#[67]⟩, 1⟩ : S37) [.bool true, .string ⟨#[67]⟩, .int .i64 1] from k37_mkM _ _ _ _) (Reps.c3 (show Kd.M k37 _ _ _ (⟨true, ⟨#[67]⟩, 2⟩ : S37) [.bool true, .string ⟨#[67]⟩, .int .i64 2] from k37_mkM _ _ _ _) (Reps.c3 (show Kd.M k37 _ _ _ (⟨true, ⟨#[67]⟩, 3⟩ : S37) [.bool true, .string ⟨#[67]⟩, .int .i64 3] from k37_mkM _ _ _ _) (Reps.none _ _)))
  refine rg_call (fun v _ => v = .agg #[.bool true, .string ⟨#[67]⟩, .int .i64 1]) (fun _ _ _ _ h => h) rfl rfl Try.func30 (by kernel_rfl) rfl (fun _ _ _ _ => wanted_none rfl) ?_ ?_
  · intro a w' hr hs
    rw [show (#[Operand.const (.string ⟨#[67]⟩), Operand.const (.int .i64 1)] : Array Operand).map a.eval = #[.string ⟨#[67]⟩, .int .i64 1] by simp [Act.eval]]
    refine (chaperonlaw10_out.calls ⟨#[67]⟩ 1 true ⟨#[67]⟩ 1 _ rfl).mono ?_
    rintro e w3 ⟨rfl, hb⟩
    exact ⟨_, rfl, hb, rfl⟩
  refine rg_call (fun v _ => v = .agg #[.bool true, .string ⟨#[67]⟩, .int .i64 3]) (fun _ _ _ _ h => h) rfl rfl Try.func30 (by kernel_rfl) rfl (fun _ _ _ _ => wanted_none rfl) ?_ ?_
  · intro a w' hr hs
    rw [show (#[Operand.const (.string ⟨#[67]⟩), Operand.const (.int .i64 3)] : Array Operand).map a.eval = #[.string ⟨#[67]⟩, .int .i64 3] by simp [Act.eval]]
    refine (chaperonlaw10_out.calls ⟨#[67]⟩ 3 true ⟨#[67]⟩ 3 _ rfl).mono ?_
    rintro e w3 ⟨rfl, hb⟩
    exact ⟨_, rfl, hb, rfl⟩
  refine rg_lit k37 37 chaperonlaw10_awake.l2 rfl rfl (fun _ _ _ _ => wanted_none rfl) (by decide) ?_ ?_
  · intro a w' hr hs
    have h4 := hs.get 1 rfl (by kernel_rfl) rfl
    have h5 := hs.get 0 rfl (by kernel_rfl) rfl
    simp only at h4 h5
    refine ⟨[.bool true, .string ⟨#[67]⟩, .int .i64 1, .bool true, .string ⟨#[67]⟩, .int .i64 3], by go_simp; rfl, ?_⟩
    exact Reps.c3 (show Kd.M k37 _ _ _ (⟨true, ⟨#[67]⟩, 1⟩ : S37) [.bool true, .string ⟨#[67]⟩, .int .i64 1] from k37_mkM _ _ _ _) (Reps.c3 (show Kd.M k37 _ _ _ (⟨true, ⟨#[67]⟩, 3⟩ : S37) [.bool true, .string ⟨#[67]⟩, .int .i64 3] from k37_mkM _ _ _ _) (Reps.none _ _))
  refine rg_call (fun v _ => v = .bool true) (fun _ _ _ _ h => h) rfl rfl Try.func29 (by kernel_rfl) rfl (fun _ _ _ _ => wanted_none rfl) ?_ ?_
  · intro a w' hr hs
    obtain ⟨A1, c1, h1, hc1, hC1⟩ := hs.get 3 rfl (by kernel_rfl) rfl
    obtain ⟨A2, c2, h2, hc2, hC2⟩ := hs.get 0 rfl (by kernel_rfl) rfl
    have h6 : (#[Operand.tmp 12, Operand.tmp 15] : Array Operand).map a.eval = #[.slice A1 chaperonlaw10_awake.l3.length c1, .slice A2 chaperonlaw10_awake.l2.length c2] := by simp [Act.eval, h1, h2]
    rw [h6]
    refine (chaperonlaw10_norms.calls 10 A1 c1 chaperonlaw10_awake.l3 A2 c2 chaperonlaw10_awake.l2 true _ hC1 hc1 hC2 hc2 chaperonlaw10_awake.n1).mono ?_
    rintro e w3 ⟨rfl, hb⟩
    exact ⟨_, rfl, hb, rfl⟩
  refine rg_val (.bool true) Grows.refl rfl (fun _ _ _ _ => wanted_none rfl) ?_ ?_
  · intro a w' hr hs
    have h7 := hs.get 0 rfl (by kernel_rfl) rfl
    simp only at h7
    go_simp
  refine rg_op (Rowed k37 chaperonlaw10_awake.l7) (fun _ _ _ hg hx => hx.grows hg) (fun o' ho' a w' hr hs => ?_) ?_
  · obtain rfl := Option.some.inj ho'
    have hg := hs.get 0 rfl (by kernel_rfl) rfl; simp only at hg
    have o3 := hs.out 3 (by kernel_rfl); simp only at o3
    rw [if_pos (on_guard (g := 8) (t := 17) rfl rfl hg)]
    unfold Oper.wp
    rw [show (execOp a.eval _).run Try.prog w' = .ok (.value (.slice A 7 c)) w' by go_simp]
    exact ⟨_, rfl, Grows.refl _, A, c, rfl, HCC.out, Kd.C_below HC.out hr⟩
  refine rg_val (.slice A 7 c) Grows.refl rfl (fun a w hr hs => on_guard (g := 8) (t := 17) rfl rfl (hs.get 1 rfl (by kernel_rfl) rfl)) ?_ ?_
  · intro a w' hr hs
    have o3 := hs.out 3 (by kernel_rfl)
    simp only at o3
    go_simp
  obtain ⟨ad0, hA0⟩ : ∃ ad, A = some ad := by obtain ⟨ad, h, _⟩ := at_T37 HC.out 0 (by decide) (by decide); exact ⟨ad, h⟩
  subst hA0
  refine rg_val (.pointer (some (ad0.add (0 * 3)))) Grows.refl rfl (fun a w hr hs => on_guard (g := 8) (t := 17) rfl rfl (hs.get 2 rfl (by kernel_rfl) rfl)) ?_ ?_
  · intro a w' hr hs
    have h10 := hs.get 0 rfl (by kernel_rfl) rfl
    simp only at h10
    go_simp
  refine rg_val (.agg #[.bool true, .string ⟨#[67]⟩, .int .i64 1]) Grows.refl rfl (fun a w hr hs => on_guard (g := 8) (t := 17) rfl rfl (hs.get 3 rfl (by kernel_rfl) rfl)) ?_ ?_
  · intro a w' hr hs
    have h11 := hs.get 0 rfl (by kernel_rfl) rfl
    simp only at h11
    obtain ⟨ad', e1, x0, x1, x2⟩ := at_T37 (Kd.C_below HC.out hr) 0 (by decide) (by decide)
    cases e1
    rw [show rd_T37 chaperonlaw10_awake.l7 0 = ⟨true, ⟨#[67]⟩, 1⟩ from rfl] at x0 x1 x2
    simp only at x0 x1 x2
    obtain ⟨p, hp⟩ : ∃ p, p = ad0.add (0 * 3) := ⟨_, rfl⟩
    rw [← hp] at h11
    rw [show Int.toNat 0 * 3 = 0 * 3 from rfl, ← hp] at x0 x1 x2
    clear hp
    go_simp
  refine rg_val (.slice (some ad0) 7 c) Grows.refl rfl (fun a w hr hs => on_guard (g := 8) (t := 17) rfl rfl (hs.get 4 rfl (by kernel_rfl) rfl)) ?_ ?_
  · intro a w' hr hs
    have o3 := hs.out 3 (by kernel_rfl)
    simp only at o3
    go_simp
  refine rg_val (.pointer (some (ad0.add (1 * 3)))) Grows.refl rfl (fun a w hr hs => on_guard (g := 8) (t := 17) rfl rfl (hs.get 5 rfl (by kernel_rfl) rfl)) ?_ ?_
  · intro a w' hr hs
    have h13 := hs.get 0 rfl (by kernel_rfl) rfl
    simp only at h13
    go_simp
  refine rg_val (.agg #[.bool true, .string ⟨#[68]⟩, .int .i64 2]) Grows.refl rfl (fun a w hr hs => on_guard (g := 8) (t := 17) rfl rfl (hs.get 6 rfl (by kernel_rfl) rfl)) ?_ ?_
  · intro a w' hr hs
    have h14 := hs.get 0 rfl (by kernel_rfl) rfl
    simp only at h14
    obtain ⟨ad', e1, x0, x1, x2⟩ := at_T37 (Kd.C_below HC.out hr) 1 (by decide) (by decide)
    cases e1
    rw [show rd_T37 chaperonlaw10_awake.l7 1 = ⟨true, ⟨#[68]⟩, 2⟩ from rfl] at x0 x1 x2
    simp only at x0 x1 x2
    obtain ⟨p, hp⟩ : ∃ p, p = ad0.add (1 * 3) := ⟨_, rfl⟩
    rw [← hp] at h14
    rw [show Int.toNat 1 * 3 = 1 * 3 from rfl, ← hp] at x0 x1 x2
    clear hp
    go_simp
  refine rg_val (.slice (some ad0) 7 c) Grows.refl rfl (fun a w hr hs => on_guard (g := 8) (t := 17) rfl rfl (hs.get 7 rfl (by kernel_rfl) rfl)) ?_ ?_
  · intro a w' hr hs
    have o3 := hs.out 3 (by kernel_rfl)
    simp only at o3
    go_simp
  refine rg_val (.pointer (some (ad0.add (2 * 3)))) Grows.refl rfl (fun a w hr hs => on_guard (g := 8) (t := 17) rfl rfl (hs.get 8 rfl (by kernel_rfl) rfl)) ?_ ?_
  · intro a w' hr hs
    have h16 := hs.get 0 rfl (by kernel_rfl) rfl
    simp only at h16
    go_simp
  refine rg_val (.agg #[.bool true, .string ⟨#[67]⟩, .int .i64 3]) Grows.refl rfl (fun a w hr hs => on_guard (g := 8) (t := 17) rfl rfl (hs.get 9 rfl (by kernel_rfl) rfl)) ?_ ?_
  · intro a w' hr hs
    have h17 := hs.get 0 rfl (by kernel_rfl) rfl
    simp only at h17
    obtain ⟨ad', e1, x0, x1, x2⟩ := at_T37 (Kd.C_below HC.out hr) 2 (by decide) (by decide)
    cases e1
    rw [show rd_T37 chaperonlaw10_awake.l7 2 = ⟨true, ⟨#[67]⟩, 3⟩ from rfl] at x0 x1 x2
    simp only at x0 x1 x2
    obtain ⟨p, hp⟩ : ∃ p, p = ad0.add (2 * 3) := ⟨_, rfl⟩
    rw [← hp] at h17
    rw [show Int.toNat 2 * 3 = 2 * 3 from rfl, ← hp] at x0 x1 x2
    clear hp
    go_simp
  refine rg_val (.slice (some ad0) 7 c) Grows.refl rfl (fun a w hr hs => on_guard (g := 8) (t := 17) rfl rfl (hs.get 10 rfl (by kernel_rfl) rfl)) ?_ ?_
  · intro a w' hr hs
    have o3 := hs.out 3 (by kernel_rfl)
    simp only at o3
    go_simp
  refine rg_val (.pointer (some (ad0.add (4 * 3)))) Grows.refl rfl (fun a w hr hs => on_guard (g := 8) (t := 17) rfl rfl (hs.get 11 rfl (by kernel_rfl) rfl)) ?_ ?_
  · intro a w' hr hs
    have h19 := hs.get 0 rfl (by kernel_rfl) rfl
    simp only at h19
    go_simp
  refine rg_val (.agg #[.bool true, .string ⟨#[67]⟩, .int .i64 5]) Grows.refl rfl (fun a w hr hs => on_guard (g := 8) (t := 17) rfl rfl (hs.get 12 rfl (by kernel_rfl) rfl)) ?_ ?_
  · intro a w' hr hs
    have h20 := hs.get 0 rfl (by kernel_rfl) rfl
    simp only at h20
    obtain ⟨ad', e1, x0, x1, x2⟩ := at_T37 (Kd.C_below HC.out hr) 4 (by decide) (by decide)
    cases e1
    rw [show rd_T37 chaperonlaw10_awake.l7 4 = ⟨true, ⟨#[67]⟩, 5⟩ from rfl] at x0 x1 x2
    simp only at x0 x1 x2
    obtain ⟨p, hp⟩ : ∃ p, p = ad0.add (4 * 3) := ⟨_, rfl⟩
    rw [← hp] at h20
    rw [show Int.toNat 4 * 3 = 4 * 3 from rfl, ← hp] at x0 x1 x2
    clear hp
    go_simp
  refine rg_val (.slice (some ad0) 7 c) Grows.refl rfl (fun a w hr hs => on_guard (g := 8) (t := 17) rfl rfl (hs.get 13 rfl (by kernel_rfl) rfl)) ?_ ?_
  · intro a w' hr hs
    have o3 := hs.out 3 (by kernel_rfl)
    simp only at o3
    go_simp
  refine rg_val (.pointer (some (ad0.add (5 * 3)))) Grows.refl rfl (fun a w hr hs => on_guard (g := 8) (t := 17) rfl rfl (hs.get 14 rfl (by kernel_rfl) rfl)) ?_ ?_
  · intro a w' hr hs
    have h22 := hs.get 0 rfl (by kernel_rfl) rfl
    simp only at h22
    go_simp
  refine rg_val (.agg #[.bool true, .string ⟨#[68]⟩, .int .i64 6]) Grows.refl rfl (fun a w hr hs => on_guard (g := 8) (t := 17) rfl rfl (hs.get 15 rfl (by kernel_rfl) rfl)) ?_ ?_
  · intro a w' hr hs
    have h23 := hs.get 0 rfl (by kernel_rfl) rfl
    simp only at h23
    obtain ⟨ad', e1, x0, x1, x2⟩ := at_T37 (Kd.C_below HC.out hr) 5 (by decide) (by decide)
    cases e1
    rw [show rd_T37 chaperonlaw10_awake.l7 5 = ⟨true, ⟨#[68]⟩, 6⟩ from rfl] at x0 x1 x2
    simp only at x0 x1 x2
    obtain ⟨p, hp⟩ : ∃ p, p = ad0.add (5 * 3) := ⟨_, rfl⟩
    rw [← hp] at h23
    rw [show Int.toNat 5 * 3 = 5 * 3 from rfl, ← hp] at x0 x1 x2
    clear hp
    go_simp
  refine rg_val (.slice (some ad0) 7 c) Grows.refl rfl (fun a w hr hs => on_guard (g := 8) (t := 17) rfl rfl (hs.get 16 rfl (by kernel_rfl) rfl)) ?_ ?_
  · intro a w' hr hs
    have o3 := hs.out 3 (by kernel_rfl)
    simp only at o3
    go_simp
  refine rg_val (.pointer (some (ad0.add (6 * 3)))) Grows.refl rfl (fun a w hr hs => on_guard (g := 8) (t := 17) rfl rfl (hs.get 17 rfl (by kernel_rfl) rfl)) ?_ ?_
  · intro a w' hr hs
    have h25 := hs.get 0 rfl (by kernel_rfl) rfl
    simp only at h25
    go_simp
  refine rg_val (.agg #[.bool true, .string ⟨#[67]⟩, .int .i64 7]) Grows.refl rfl (fun a w hr hs => on_guard (g := 8) (t := 17) rfl rfl (hs.get 18 rfl (by kernel_rfl) rfl)) ?_ ?_
  · intro a w' hr hs
    have h26 := hs.get 0 rfl (by kernel_rfl) rfl
    simp only at h26
    obtain ⟨ad', e1, x0, x1, x2⟩ := at_T37 (Kd.C_below HC.out hr) 6 (by decide) (by decide)
    cases e1
    rw [show rd_T37 chaperonlaw10_awake.l7 6 = ⟨true, ⟨#[67]⟩, 7⟩ from rfl] at x0 x1 x2
    simp only at x0 x1 x2
    obtain ⟨p, hp⟩ : ∃ p, p = ad0.add (6 * 3) := ⟨_, rfl⟩
    rw [← hp] at h26
    rw [show Int.toNat 6 * 3 = 6 * 3 from rfl, ← hp] at x0 x1 x2
    clear hp
    go_simp
  refine rg_lit k37 37 chaperonlaw10_awake.l6 rfl rfl (fun a w hr hs => on_guard (g := 8) (t := 17) rfl rfl (hs.get 19 rfl (by kernel_rfl) rfl)) (by decide) ?_ ?_
  · intro a w' hr hs
    have h12 := hs.get 15 rfl (by kernel_rfl) rfl
    have h15 := hs.get 12 rfl (by kernel_rfl) rfl
    have h18 := hs.get 9 rfl (by kernel_rfl) rfl
    have h21 := hs.get 6 rfl (by kernel_rfl) rfl
    have h24 := hs.get 3 rfl (by kernel_rfl) rfl
    have h27 := hs.get 0 rfl (by kernel_rfl) rfl
    simp only at h12 h15 h18 h21 h24 h27
    refine ⟨[.bool true, .string ⟨#[67]⟩, .int .i64 1, .bool true, .string ⟨#[68]⟩, .int .i64 2, .bool true, .string ⟨#[67]⟩, .int .i64 3, .bool true, .string ⟨#[67]⟩, .int .i64 5, .bool true, .string ⟨#[68]⟩, .int .i64 6, .bool true, .string ⟨#[67]⟩, .int .i64 7], by go_simp; rfl, ?_⟩
    exact Reps.c3 (show Kd.M k37 _ _ _ (⟨true, ⟨#[67]⟩, 1⟩ : S37) [.bool true, .string ⟨#[67]⟩, .int .i64 1] from k37_mkM _ _ _ _) (Reps.c3 (show Kd.M k37 _ _ _ (⟨true, ⟨#[68]⟩, 2⟩ : S37) [.bool true, .string ⟨#[68]⟩, .int .i64 2] from k37_mkM _ _ _ _) (Reps.c3 (show Kd.M k37 _ _ _ (⟨true, ⟨#[67]⟩, 3⟩ : S37) [.bool true, .string ⟨#[67]⟩, .int .i64 3] from k37_mkM _ _ _ _) (Reps.c3 (show Kd.M k37 _ _ _ (⟨true, ⟨#[67]⟩, 5⟩ : S37) [.bool true, .string ⟨#[67]⟩, .int .i64 5] from k37_mkM _ _ _ _) (Reps.c3 (show Kd.M k37 _ _ _ (⟨true, ⟨#[68]⟩, 6⟩ : S37) [.bool true, .string ⟨#[68]⟩, .int .i64 6] from k37_mkM _ _ _ _) (Reps.c3 (show Kd.M k37 _ _ _ (⟨true, ⟨#[67]⟩, 7⟩ : S37) [.bool true, .string ⟨#[67]⟩, .int .i64 7] from k37_mkM _ _ _ _) (Reps.none _ _))))))
  refine rg_call (fun v _ => v = .bool true) (fun _ _ _ _ h => h) rfl rfl Try.func29 (by kernel_rfl) rfl (fun a w hr hs => on_guard (g := 8) (t := 17) rfl rfl (hs.get 20 rfl (by kernel_rfl) rfl)) ?_ ?_
  · intro a w' hr hs
    obtain ⟨A1, c1, h1, hc1, hC1⟩ := hs.get 19 rfl (by kernel_rfl) rfl
    obtain ⟨A2, c2, h2, hc2, hC2⟩ := hs.get 0 rfl (by kernel_rfl) rfl
    have h6 : (#[Operand.tmp 18, Operand.tmp 37] : Array Operand).map a.eval = #[.slice A1 chaperonlaw10_awake.l7.length c1, .slice A2 chaperonlaw10_awake.l6.length c2] := by simp [Act.eval, h1, h2]
    rw [h6]
    refine (chaperonlaw10_norms.calls 10 A1 c1 chaperonlaw10_awake.l7 A2 c2 chaperonlaw10_awake.l6 true _ hC1 hc1 hC2 hc2 chaperonlaw10_awake.n2).mono ?_
    rintro e w3 ⟨rfl, hb⟩
    exact ⟨_, rfl, hb, rfl⟩
  refine rg_val (.bool true) Grows.refl rfl (fun _ _ _ _ => wanted_none rfl) ?_ ?_
  · intro a w' hr hs
    have h8 := hs.get 21 rfl (by kernel_rfl) rfl
    have h29 := hs.get 0 rfl (by kernel_rfl) rfl
    simp only at h8 h29
    go_simp
  refine rg_val (.bool true) Grows.refl rfl (fun _ _ _ _ => wanted_none rfl) ?_ ?_
  · intro a w' hr hs
    have h30 := hs.get 0 rfl (by kernel_rfl) rfl
    simp only at h30
    go_simp
  refine rg_val (.int .i64 12) Grows.refl rfl (fun a w hr hs => on_guard (g := 31) (t := 40) rfl rfl (hs.get 0 rfl (by kernel_rfl) rfl)) ?_ ?_
  · intro a w' hr hs
    have o1 := hs.out 1 (by kernel_rfl)
    simp only at o1
    go_simp
  refine rg_val (.bool true) Grows.refl rfl (fun a w hr hs => on_guard (g := 31) (t := 40) rfl rfl (hs.get 1 rfl (by kernel_rfl) rfl)) ?_ ?_
  · intro a w' hr hs
    have h32 := hs.get 0 rfl (by kernel_rfl) rfl
    simp only at h32
    go_simp
  refine rg_val (.bool true) Grows.refl rfl (fun _ _ _ _ => wanted_none rfl) ?_ ?_
  · intro a w' hr hs
    have h31 := hs.get 2 rfl (by kernel_rfl) rfl
    have h33 := hs.get 0 rfl (by kernel_rfl) rfl
    simp only at h31 h33
    go_simp
  refine rg_val (.bool true) Grows.refl rfl (fun _ _ _ _ => wanted_none rfl) ?_ ?_
  · intro a w' hr hs
    have h34 := hs.get 0 rfl (by kernel_rfl) rfl
    simp only at h34
    go_simp
  refine rg_val (.int .i64 0) Grows.refl rfl (fun a w hr hs => on_guard (g := 35) (t := 44) rfl rfl (hs.get 0 rfl (by kernel_rfl) rfl)) ?_ ?_
  · intro a w' hr hs
    have o2 := hs.out 2 (by kernel_rfl)
    simp only at o2
    go_simp
  refine rg_val (.bool true) Grows.refl rfl (fun a w hr hs => on_guard (g := 35) (t := 44) rfl rfl (hs.get 1 rfl (by kernel_rfl) rfl)) ?_ ?_
  · intro a w' hr hs
    have h36 := hs.get 0 rfl (by kernel_rfl) rfl
    simp only at h36
    go_simp
  refine rg_val (.bool true) Grows.refl rfl (fun _ _ _ _ => wanted_none rfl) ?_ ?_
  · intro a w' hr hs
    have h35 := hs.get 2 rfl (by kernel_rfl) rfl
    have h37 := hs.get 0 rfl (by kernel_rfl) rfl
    simp only at h35 h37
    go_simp
  intro vs w3 hr hE
  have e38 : vs 38 = .bool true := hE _ (.head _)
  have hB3 := Aside0.mk (show Below w.heap.size w w3 from HB2.out.trans (Below.mono (Below.trans (Below.refl w2.heap.size w2).drew hr) HB2.out.size))
  clear hE hr
  rw [show List.range 39 = [0, 1, 2, 3, 4, 5, 6, 7, 8, 9, 10, 11, 12, 13, 14, 15, 16, 17, 18, 19, 20, 21, 22, 23, 24, 25, 26, 27, 28, 29, 30, 31, 32, 33, 34, 35, 36, 37, 38] from rfl]
  simp only [putL, slotOf, List.getElem?_toArray, List.getElem?_cons_succ, List.getElem?_cons_zero, Option.bind_some, Act.put, List.setIfInBounds_toArray, List.set_cons_succ, List.set_cons_zero, e38]
  refine tail_val (i := 39) (r := []) (w' := w3) (.bool true) rfl (wanted_none rfl) (by go_simp) (tail_end ?_)
  change Exit.then _ _ Exit.normal (Act.put _ (some 0) _) w3
  simp only [Act.put, List.setIfInBounds_toArray, List.set_cons_succ, List.set_cons_zero]
  clear e38 HC HCC HB2
  go_wp2_with fail
  go_ret
  exact ⟨rfl, hB3.out⟩

/-! ### chaperonkit_CopyLayers: function 11 -/
def chaperonkit_CopyLayers.f (l0 : List (S37)) : Option ((List (S37))) := (some (([] : List (S37)) : List (S37))).bind fun y121 => (if y121.length + l0.length < 4398046511104 then (some (y121 ++ l0)) else (none))
set_option maxHeartbeats 8000000 in
set_option maxRecDepth 100000 in
theorem chaperonkit_CopyLayers.calls (A0 : Option Addr) (c0 : Nat) (l0 : List (S37)) (r : List (S37)) (w : World) (hr0 : Kd.C k37 w A0 l0.length l0) (hc0 : l0.length ≤ c0) (h : chaperonkit_CopyLayers.f l0 = some r) :
    Calls Try.prog 11 #[.slice A0 l0.length c0] w fun e w' => ∃ v0_ : Value, e = .returned (v0_) ∧ Kd.R k37 37 w' w.heap.size (fun _ => True) v0_ r ∧ Below w.heap.size w w' := by
  have HR0 := Aside0.mk hr0
  have HC0 := Aside0.mk hc0
  clear hr0 hc0
  have HB := Aside0.mk (Below.refl w.heap.size w)
  have H : ((some (([] : List (S37)) : List (S37))).bind fun y121 => (if y121.length + l0.length < 4398046511104 then (some (y121 ++ l0)) else (none))) = some r := h
  clear h
  obtain ⟨y121, hy121⟩ : ∃ y_ : List (S37), y_ = (([] : List (S37))) := ⟨_, rfl⟩
  replace H : (if y121.length + l0.length < 4398046511104 then (some (y121 ++ l0)) else (none)) = some r := by first | (rw [hy121]; with_reducible exact H) | (have H2_ := (Option.bind_some _ _).symm.trans H; rw [hy121]; with_reducible exact H2_) | (have H2_ := (Option.bind_some _ _).symm.trans H; with_reducible exact H2_) | with_reducible exact H | (rw [hy121]; exact H) | exact H
  have Ny121 := Aside0.mk hy121
  clear hy121
  by_cases c2 : y121.length + l0.length < 4398046511104
  · rw [if_pos c2] at H
    have LMc2 := Aside0.mk c2
    clear c2
    obtain ⟨y124, hy124⟩ : ∃ y_ : List (S37), y_ = (y121 ++ l0) := ⟨_, rfl⟩
    replace H : (some y124) = some r := by first | (rw [hy124]; with_reducible exact H) | (have H2_ := (Option.bind_some _ _).symm.trans H; rw [hy124]; with_reducible exact H2_) | (have H2_ := (Option.bind_some _ _).symm.trans H; with_reducible exact H2_) | with_reducible exact H | (rw [hy124]; exact H) | exact H
    have Ny124 := Aside0.mk hy124
    clear hy124
    obtain rfl := Option.some.inj H
    go_enter Try.func11, Try.ntmps11
    go_wp2_with (first | ((with_reducible refine gate_dst (N := 3) rfl ?_); refine Kd.R_lit k37 _ 37 ?hg (N := 3) ?hd (xs := ([] : List (S37))) (inner := []) (ok := fun _ => True) (okp := fun _ => True) ?hr ?hp (fun _ hk => hk) trivial (Below.refl _ _) (Nat.le_refl _) (by simp) ?_; (case hd => rfl); (case hg => rfl); (case hr => first | (go_simp; done) | (go_simp; rfl)); (case hp => exact (Reps.none _ _)); intro v122 w3 ho4 hb hg_ hnew_; clear hg_ hnew_; (first | rw [← Ny121.out] at ho4 | (simp only [Int.reduceToNat] at ho4; rw [← Ny121.out] at ho4)); have n0_ := Aside0.mk (Kd.R_lower ho4 (below_size (by repeat (first | (with_reducible first | exact HB.out | apply below_alloc | apply pw_below_drewN | apply below_drew1) | exact HB.out)))); have n1_ := Aside0.mk (below_step (by repeat (first | (with_reducible first | exact HB.out | apply below_alloc | apply pw_below_drewN | apply below_drew1) | exact HB.out)) hb); clear HB; have HO123 := n0_; have HB := n1_; clear n0_ n1_; clear hb ho4) | ((with_reducible refine gate_builtin (b := .append) (xs := #[.tmp 3, .tmp 4]) rfl ?_); at_builtin; refine Kd.R_append_rows k37 (w0 := w) w.heap.size rfl (.tmp 3) (.tmp 4) 22 37 (.agg #[(.bool false), (.string ⟨#[]⟩), (.int .i64 0)]) 32 rfl Try.underlying22 info37 rfl (by decide) (by omega) v122 y121 l0 _ _ _ (fun _ => True) (fun _ => False) rfl rfl ?aO ?aR (fun _ _ h => h) (fun _ h => h.elim) ?aF ?aB ?aS ?aL ?_; (case aR => repeat (first | exact (Kd.C_below HR0.out HB.out) | (with_reducible refine Kd.C_alloc ?_ _) | (with_reducible refine Kd.C_drewN ?_ _) | (with_reducible refine Kd.C_drew ?_))); (case aB => exact (by repeat (first | (with_reducible first | exact HB.out | apply below_alloc | apply pw_below_drewN | apply below_drew1) | exact HB.out))); (case aF => exact (fun _ _ => trivial)); (case aO => exact (by (with_reducible repeat (first | apply Kd.R_alloc | apply Kd.R_drewN | apply Kd.R_drew)); exact HO123.out)); (case aS => exact (below_size (by repeat (first | (with_reducible first | exact HB.out | apply below_alloc | apply pw_below_drewN | apply below_drew1) | exact HB.out)))); (case aL => have := LMc2.out; omega); intro v125 w5 ho hb hg hat; rw [← Ny124.out] at ho; have n0_ := Aside0.mk (hb); have n1_ := Aside0.mk (ho); clear HB; clear HO123; have HB := n0_; have HO126 := n1_; clear n0_ n1_; clear ho hb hg hat))
    go_ret
    exact ⟨_, by first | rfl | (simp [errW_none, errW_some] <;> rfl) | (simp [*, errW_none, errW_some] <;> rfl), by (with_reducible repeat (first | apply Kd.R_alloc | apply Kd.R_drewN | apply Kd.R_drew)); exact HO126.out, by repeat (first | (with_reducible first | exact HB.out | apply below_alloc | apply pw_below_drewN | apply below_drew1) | exact HB.out)⟩
  · rw [if_neg c2] at H
    exact absurd H (by simp)

/-! ### slices_Index_string_string: function 41 -/
def slices_Index_string_string.l0 : Nat → List ByteArray → ByteArray → Int → Int → Option (Int)
  | 0, _, _, _, _ => none
  | k + 1, x0, x1, x7, x8 => if x8 < x7 then (if 0 ≤ x8 then (if x8 < (x0.length : Int) then (if x1.toList = (rdOf ByteArray.empty x0 x8).toList then (some x8) else (slices_Index_string_string.l0 k x0 x1 x7 (wrap64 (x8 + 1)))) else (none)) else (none)) else (some (-1))
def slices_Index_string_string.f (k : Nat) (l0 : List ByteArray) (a1 : ByteArray) : Option (Int) := slices_Index_string_string.l0 k l0 a1 (l0.length : Int) 0
theorem slices_Index_string_string.mono_l : ∀ k, (∀ y0 y1 y2 y3, LeO (slices_Index_string_string.l0 k y0 y1 y2 y3) (slices_Index_string_string.l0 (k + 1) y0 y1 y2 y3))
  | 0 => fun _ _ _ _ r h => by simp [slices_Index_string_string.l0] at h
  | k + 1 => by
    have ih0 := slices_Index_string_string.mono_l k
    · intro y0 y1 y2 y3
      unfold slices_Index_string_string.l0
      repeat' first
      | (with_reducible exact ih0 _ _ _ _)
      | (with_reducible exact LeO.refl _)
      | (with_reducible exact LeO.none _)
      | (with_reducible refine LeO.ite ?_ ?_)
      | (with_reducible refine LeO.bind ?_ (fun _ => ?_))
      | exact ih0 _ _ _ _
      | exact LeO.none _
      | refine LeO.ite ?_ ?_
      | refine LeO.bind ?_ (fun _ => ?_)
theorem slices_Index_string_string.mono : ∀ a0 a1 k, LeO (slices_Index_string_string.f k a0 a1) (slices_Index_string_string.f (k + 1) a0 a1) := by
  intro a0 a1 k
  have ih0 := slices_Index_string_string.mono_l k
  unfold slices_Index_string_string.f
  repeat' first
      | (with_reducible exact ih0 _ _ _ _)
      | (with_reducible exact LeO.refl _)
      | (with_reducible exact LeO.none _)
      | (with_reducible refine LeO.ite ?_ ?_)
      | (with_reducible refine LeO.bind ?_ (fun _ => ?_))
      | exact ih0 _ _ _ _
      | exact LeO.none _
      | refine LeO.ite ?_ ?_
      | refine LeO.bind ?_ (fun _ => ?_)
set_option maxHeartbeats 8000000 in
set_option maxRecDepth 100000 in
theorem slices_Index_string_string.calls (k : Nat) (A0 : Option Addr) (c0 : Nat) (l0 : List ByteArray) (a1 : ByteArray) (r : Int) (w : World) (hr0 : Kd.C Kd.string w A0 l0.length l0) (hc0 : l0.length ≤ c0) (h : slices_Index_string_string.f k l0 a1 = some r) :
    Calls Try.prog 41 #[.slice A0 l0.length c0, .string a1] w fun e w' => e = .returned (.int .i64 r) ∧ Drawn0 w w' := by
  have HR0 := Aside0.mk hr0
  have HC0 := Aside0.mk hc0
  clear hr0 hc0
  have H : (slices_Index_string_string.l0 k l0 a1 (l0.length : Int) 0) = some r := h
  clear h
  have H' := Aside0.mk H
  clear H
  go_enter Try.func41, Try.ntmps41
  go_wp2
  go_loopg [8] k (fun kq v8 w' => ∃ (x8_1 : Int), v8 = .int .i64 x8_1 ∧ Aside0 (slices_Index_string_string.l0 kq l0 a1 (l0.length : Int) x8_1 = some r) ∧ Aside0 (kq ≤ k) ∧ Drawn0 w w')
  case atStart => exact ⟨(0), (by first | rfl | (simp; done) | (simp [*]; done)), H', ⟨Nat.le_refl _⟩, by repeat (first | exact Drawn0.refl _ | apply Drawn0.step)⟩
  case round =>
    clear H'
    try clear p2
    obtain ⟨x8_1, rfl, HA, HK1, ⟨m1, rfl⟩⟩ := hrel
    cases gk with
    | zero => exact absurd HA.out (by simp [slices_Index_string_string.l0])
    | succ k1 =>
      have H := HA.out
      clear HA
      simp only [slices_Index_string_string.l0] at H
      by_cases c3 : x8_1 < (l0.length : Int)
      · rw [if_pos c3] at H
        have c3b0 : decide (x8_1 < (l0.length : Int)) = true := decide_eq_true c3
        clear c3
        by_cases c4 : 0 ≤ x8_1
        · rw [if_pos c4] at H
          have c4b0 : decide (0 ≤ x8_1) = true := decide_eq_true c4
          clear c4
          by_cases c5 : x8_1 < (l0.length : Int)
          · rw [if_pos c5] at H
            have c5b0 : decide (x8_1 < (l0.length : Int)) = true := decide_eq_true c5
            clear c5
            by_cases c6 : a1.toList = (rdOf ByteArray.empty l0 x8_1).toList
            · rw [if_pos c6] at H
              have c6b0 : (a1.toList == (rdOf ByteArray.empty l0 x8_1).toList) = true := beq_iff_eq.mpr c6
              have c6b1 : (a1.toList != (rdOf ByteArray.empty l0 x8_1).toList) = false := bne_eq_false_iff_eq.mpr c6
              clear c6
              obtain rfl := Option.some.inj H
              have p127 : 0 ≤ (x8_1 : Int) := of_decide_eq_true (by first | (with_reducible assumption) | assumption)
              have q127 : x8_1 < (l0.length : Int) := of_decide_eq_true (by first | (with_reducible assumption) | assumption)
              obtain ⟨ad127, e127, hx127_0⟩ := Kd.at_string HR0.out x8_1 p127 q127
              cases e127
              replace p127 := eq_true p127
              replace q127 := eq_true q127
              go_wp2
              go_ret
              exact ⟨by first | rfl | (simp; done) | (simp [*]; done), by repeat (first | exact Drawn0.refl _ | apply Drawn0.step)⟩
            · rw [if_neg c6] at H
              have c6b0 : (a1.toList == (rdOf ByteArray.empty l0 x8_1).toList) = false := beq_eq_false_iff_ne.mpr c6
              have c6b1 : (a1.toList != (rdOf ByteArray.empty l0 x8_1).toList) = true := bne_iff_ne.mpr c6
              have H' := Aside0.mk H
              clear H
              have p127 : 0 ≤ (x8_1 : Int) := of_decide_eq_true (by first | (with_reducible assumption) | assumption)
              have q127 : x8_1 < (l0.length : Int) := of_decide_eq_true (by first | (with_reducible assumption) | assumption)
              obtain ⟨ad127, e127, hx127_0⟩ := Kd.at_string HR0.out x8_1 p127 q127
              cases e127
              replace p127 := eq_true p127
              replace q127 := eq_true q127
              go_wp2
              go_roundg k1
              case measure => have := HK1.out; omega
              case rel => exact ⟨(wrap64 (x8_1 + 1)), (by first | rfl | (simp; done) | (simp [*]; done)), H', ⟨by have := HK1.out; omega⟩, by repeat (first | exact Drawn0.refl _ | apply Drawn0.step)⟩
          · rw [if_neg c5] at H
            exact absurd H (by simp)
        · rw [if_neg c4] at H
          exact absurd H (by simp)
      · rw [if_neg c3] at H
        have c3b0 : decide (x8_1 < (l0.length : Int)) = false := decide_eq_false c3
        clear c3
        obtain rfl := Option.some.inj H
        go_wp2
        go_ret
        exact ⟨by first | rfl | (simp; done) | (simp [*]; done), by repeat (first | exact Drawn0.refl _ | apply Drawn0.step)⟩

/-! ### slices_Contains_string_string: function 37 -/
def slices_Contains_string_string.f (k : Nat) (l0 : List ByteArray) (a1 : ByteArray) : Option (Bool) := (slices_Index_string_string.f k l0 a1).bind fun t128 => (some (decide (t128 ≥ 0)))
theorem slices_Contains_string_string.mono : ∀ a0 a1 k, LeO (slices_Contains_string_string.f k a0 a1) (slices_Contains_string_string.f (k + 1) a0 a1) := by
  intro a0 a1 k
  unfold slices_Contains_string_string.f
  repeat' first
      | (with_reducible exact slices_Index_string_string.mono _ _ _)
      | (with_reducible exact LeO.refl _)
      | (with_reducible exact LeO.none _)
      | (with_reducible refine LeO.ite ?_ ?_)
      | (with_reducible refine LeO.bind ?_ (fun _ => ?_))
      | exact slices_Index_string_string.mono _ _ _
      | exact LeO.none _
      | refine LeO.ite ?_ ?_
      | refine LeO.bind ?_ (fun _ => ?_)
set_option maxHeartbeats 8000000 in
set_option maxRecDepth 100000 in
theorem slices_Contains_string_string.calls (k : Nat) (A0 : Option Addr) (c0 : Nat) (l0 : List ByteArray) (a1 : ByteArray) (r : Bool) (w : World) (hr0 : Kd.C Kd.string w A0 l0.length l0) (hc0 : l0.length ≤ c0) (h : slices_Contains_string_string.f k l0 a1 = some r) :
    Calls Try.prog 37 #[.slice A0 l0.length c0, .string a1] w fun e w' => e = .returned (.bool r) ∧ Drawn0 w w' := by
  have HR0 := Aside0.mk hr0
  have HC0 := Aside0.mk hc0
  clear hr0 hc0
  have H : ((slices_Index_string_string.f k l0 a1).bind fun t128 => (some (decide (t128 ≥ 0)))) = some r := h
  clear h
  replace H := Option.bind_eq_some_iff.mp H
  obtain ⟨t128, A30, H⟩ := H
  replace H : (some (decide (t128 ≥ 0))) = some r := H
  have A3 := Aside0.mk A30
  clear A30
  obtain rfl := Option.some.inj H
  go_enter Try.func37, Try.ntmps37
  go_wp2_with (first | ((with_reducible refine gate_callee (f := 41) rfl ?_); refine goesL_ (some 7) rfl rfl Try.func41 (by kernel_rfl) rfl #[.slice A0 l0.length c0, .string a1] rfl (by (try simp only [List.map_toArray, List.map_cons, List.map_nil]); first | done | rfl | (simp only [List.length_drop, List.length_take]; rfl)) ?_; (with_reducible refine (slices_Index_string_string.calls k _ _ l0 a1 t128 _ ?side1 ?side2 A3.out).mono ?_); (case side1 => repeat (first | exact HR0.out | (with_reducible refine Kd.C_alloc ?_ _) | (with_reducible refine Kd.C_drewN ?_ _) | (with_reducible refine Kd.C_drew ?_))); (case side2 => exact HC0.out); rintro e w' ⟨rfl, ⟨nd, rfl⟩⟩; refine ⟨_, rfl, ?_⟩))
  go_ret
  exact ⟨by first | rfl | (simp; done) | (simp [*]; done), by repeat (first | exact Drawn0.refl _ | apply Drawn0.step)⟩

/-! ### chain_Classes: function 12 -/
def chain_Classes.l0 : Nat → List ByteArray → List (S37) → Int → Int → Option (List ByteArray)
  | 0, _, _, _, _ => none
  | k + 1, x5, x10, x11, x12 => if x12 < x11 then (if 0 ≤ x12 then (if x12 < (x10.length : Int) then ((slices_Contains_string_string.f k x5 ((rd_T37 x10 x12).f1)).bind fun t134 => (if t134 = true then (chain_Classes.l0 k x5 x10 x11 (wrap64 (x12 + 1))) else (if x5.length < 8796093022208 then (chain_Classes.l0 k (x5 ++ [(rd_T37 x10 x12).f1]) x10 x11 (wrap64 (x12 + 1))) else (none)))) else (none)) else (none)) else (some x5)
def chain_Classes.f (k : Nat) (a0 : ByteArray) (l1 : List (S37)) : Option (List ByteArray) := chain_Classes.l0 k (([a0] : List ByteArray)) l1 (l1.length : Int) 0
theorem chain_Classes.mono_l : ∀ k, (∀ y0 y1 y2 y3, LeO (chain_Classes.l0 k y0 y1 y2 y3) (chain_Classes.l0 (k + 1) y0 y1 y2 y3))
  | 0 => fun _ _ _ _ r h => by simp [chain_Classes.l0] at h
  | k + 1 => by
    have ih0 := chain_Classes.mono_l k
    · intro y0 y1 y2 y3
      unfold chain_Classes.l0
      repeat' first
      | (with_reducible exact ih0 _ _ _ _)
      | (with_reducible exact slices_Contains_string_string.mono _ _ _)
      | (with_reducible exact LeO.refl _)
      | (with_reducible exact LeO.none _)
      | (with_reducible refine LeO.ite ?_ ?_)
      | (with_reducible refine LeO.bind ?_ (fun _ => ?_))
      | exact ih0 _ _ _ _
      | exact slices_Contains_string_string.mono _ _ _
      | exact LeO.none _
      | refine LeO.ite ?_ ?_
      | refine LeO.bind ?_ (fun _ => ?_)
theorem chain_Classes.mono : ∀ a0 a1 k, LeO (chain_Classes.f k a0 a1) (chain_Classes.f (k + 1) a0 a1) := by
  intro a0 a1 k
  have ih0 := chain_Classes.mono_l k
  unfold chain_Classes.f
  repeat' first
      | (with_reducible exact ih0 _ _ _ _)
      | (with_reducible exact slices_Contains_string_string.mono _ _ _)
      | (with_reducible exact LeO.refl _)
      | (with_reducible exact LeO.none _)
      | (with_reducible refine LeO.ite ?_ ?_)
      | (with_reducible refine LeO.bind ?_ (fun _ => ?_))
      | exact ih0 _ _ _ _
      | exact slices_Contains_string_string.mono _ _ _
      | exact LeO.none _
      | refine LeO.ite ?_ ?_
      | refine LeO.bind ?_ (fun _ => ?_)
set_option maxHeartbeats 8000000 in
set_option maxRecDepth 100000 in
theorem chain_Classes.calls (k : Nat) (a0 : ByteArray) (A1 : Option Addr) (c1 : Nat) (l1 : List (S37)) (r : List ByteArray) (w : World) (hr1 : Kd.C k37 w A1 l1.length l1) (hc1 : l1.length ≤ c1) (h : chain_Classes.f k a0 l1 = some r) :
    Calls Try.prog 12 #[.string a0, .slice A1 l1.length c1] w fun e w' => ∃ v0_ : Value, e = .returned (v0_) ∧ Kd.R Kd.string 9 w' w.heap.size (fun _ => True) v0_ r ∧ Below w.heap.size w w' := by
  have hu37 := Try.underlying37
  have HR1 := Aside0.mk hr1
  have HC1 := Aside0.mk hc1
  clear hr1 hc1
  have HB := Aside0.mk (Below.refl w.heap.size w)
  have H : (chain_Classes.l0 k (([a0] : List ByteArray)) l1 (l1.length : Int) 0) = some r := h
  clear h
  obtain ⟨y129, hy129⟩ : ∃ y_ : List ByteArray, y_ = (([a0] : List ByteArray)) := ⟨_, rfl⟩
  replace H : (chain_Classes.l0 k y129 l1 (l1.length : Int) 0) = some r := by first | (rw [hy129]; with_reducible exact H) | (have H2_ := (Option.bind_some _ _).symm.trans H; rw [hy129]; with_reducible exact H2_) | (have H2_ := (Option.bind_some _ _).symm.trans H; with_reducible exact H2_) | with_reducible exact H | (rw [hy129]; exact H) | exact H
  have Ny129 := Aside0.mk hy129
  clear hy129
  have H' := Aside0.mk H
  clear H
  go_enter Try.func12, Try.ntmps12
  go_wp2_with (first | ((with_reducible refine gate_dst (N := 9) rfl ?_); refine Kd.R_lit Kd.string _ 9 ?hg (N := 9) ?hd (xs := ([a0] : List ByteArray)) (inner := [.string a0]) (ok := fun _ => True) (okp := fun _ => True) ?hr ?hp (fun _ hk => hk) trivial (Below.refl _ _) (Nat.le_refl _) (by simp) ?_; (case hd => rfl); (case hg => rfl); (case hr => first | (go_simp; done) | (go_simp; rfl)); (case hp => exact (Reps.one (show Kd.M Kd.string _ _ _ a0 [.string a0] from rfl) (Reps.none _ _))); intro v130 w3 ho4 hb hg_ hnew_; clear hg_ hnew_; (first | rw [← Ny129.out] at ho4 | (simp only [Int.reduceToNat] at ho4; rw [← Ny129.out] at ho4)); have n0_ := Aside0.mk (Kd.R_lower ho4 (below_size (by repeat (first | (with_reducible first | exact HB.out | apply below_alloc | apply pw_below_drewN | apply below_drew1) | exact HB.out)))); have n1_ := Aside0.mk (below_step (by repeat (first | (with_reducible first | exact HB.out | apply below_alloc | apply pw_below_drewN | apply below_drew1) | exact HB.out)) hb); clear HB; have HO131 := n0_; have HB := n1_; clear n0_ n1_; clear hb ho4))
  go_loopg [5, 12] k (fun kq v5 v12 w' => ∃ (x5_1 : List ByteArray) (x12_1 : Int), v12 = .int .i64 x12_1 ∧ Aside0 (chain_Classes.l0 kq x5_1 l1 (l1.length : Int) x12_1 = some r) ∧ Aside0 (kq ≤ k) ∧ Aside0 (Kd.R Kd.string 9 w' w.heap.size (fun _ => True) v5 x5_1) ∧ Aside0 (Below w.heap.size w w'))
  case atStart => exact ⟨(y129), (0), (by first | rfl | (simp; done) | (simp [*]; done)), H', ⟨Nat.le_refl _⟩, ⟨by (with_reducible repeat (first | apply Kd.R_alloc | apply Kd.R_drewN | apply Kd.R_drew)); exact HO131.out⟩, ⟨by repeat (first | (with_reducible first | exact HB.out | apply below_alloc | apply pw_below_drewN | apply below_drew1) | exact HB.out)⟩⟩
  case round =>
    clear H'
    try clear c1
    try clear p2
    obtain ⟨x5_1, x12_1, rfl, HA, HK1, HO_5, HB⟩ := hrel
    cases gk with
    | zero => exact absurd HA.out (by simp [chain_Classes.l0])
    | succ k1 =>
      have H := HA.out
      clear HA
      simp only [chain_Classes.l0] at H
      by_cases c5 : x12_1 < (l1.length : Int)
      · rw [if_pos c5] at H
        have c5b0 : decide (x12_1 < (l1.length : Int)) = true := decide_eq_true c5
        clear c5
        by_cases c6 : 0 ≤ x12_1
        · rw [if_pos c6] at H
          have c6b0 : decide (0 ≤ x12_1) = true := decide_eq_true c6
          clear c6
          by_cases c7 : x12_1 < (l1.length : Int)
          · rw [if_pos c7] at H
            have c7b0 : decide (x12_1 < (l1.length : Int)) = true := decide_eq_true c7
            clear c7
            replace H := Option.bind_eq_some_iff.mp H
            obtain ⟨t134, A80, H⟩ := H
            replace H : (if t134 = true then (chain_Classes.l0 k1 x5_1 l1 (l1.length : Int) (wrap64 (x12_1 + 1))) else (if x5_1.length < 8796093022208 then (chain_Classes.l0 k1 (x5_1 ++ [(rd_T37 l1 x12_1).f1]) l1 (l1.length : Int) (wrap64 (x12_1 + 1))) else (none))) = some r := H
            have A8 := Aside0.mk A80
            clear A80
            by_cases c9 : t134 = true
            · subst c9
              have H1 : (chain_Classes.l0 k1 x5_1 l1 (l1.length : Int) (wrap64 (x12_1 + 1))) = some r := by rw [if_pos rfl] at H; exact H
              clear H
              have H := H1
              clear H1
              have H' := Aside0.mk H
              clear H
              have p132 : 0 ≤ (x12_1 : Int) := of_decide_eq_true (by first | (with_reducible assumption) | assumption)
              have q132 : x12_1 < (l1.length : Int) := of_decide_eq_true (by first | (with_reducible assumption) | assumption)
              obtain ⟨ad132, e132, hx132_0, hx132_1, hx132_2⟩ := at_T37 HR1.out x12_1 p132 q132
              cases e132
              replace hx132_0 := (HB.out.cell (World.block_lt_of_cell? w _ hx132_0)).trans hx132_0
              replace hx132_1 := (HB.out.cell (World.block_lt_of_cell? w _ hx132_1)).trans hx132_1
              replace hx132_2 := (HB.out.cell (World.block_lt_of_cell? w _ hx132_2)).trans hx132_2
              replace p132 := eq_true p132
              replace q132 := eq_true q132
              go_wp2_with (first | ((with_reducible refine gate_dst (N := 7) rfl ?_); refine box_event ?hg (N := 7) ?hd (cs := #[.bool false, .string (⟨#[]⟩ : ByteArray), .int .i64 0]) (t := 37) ?hr ?_; (case hd => rfl); (case hg => rfl); (case hr => first | (go_simp; done) | (go_simp; rfl)); intro gb133 hg w10 hbox hb; have n0_ := Aside0.mk (Kd.R_below (by (with_reducible repeat (first | apply Kd.R_alloc | apply Kd.R_drewN | apply Kd.R_drew)); exact HO_5.out) hb); have n1_ := Aside0.mk (below_step (by repeat (first | (with_reducible first | exact HB.out | apply below_alloc | apply pw_below_drewN | apply below_drew1) | exact HB.out)) hb); have n2_ := Aside0.mk (hbox); have n3_ := Aside0.mk ((by rw [hg]; exact (below_size (by repeat (first | (with_reducible first | exact HB.out | apply below_alloc | apply pw_below_drewN | apply below_drew1) | exact HB.out))) : w.heap.size ≤ gb133)); have n4_ := Aside0.mk ((by rw [hg]; exact (below_size (by repeat (first | (with_reducible first | exact HB.out | apply below_alloc | apply pw_below_drewN | apply below_drew1) | exact HB.out))) : w.heap.size ≤ gb133)); clear HO_5; clear HB; have HO_5 := n0_; have HB := n1_; have BK133 := n2_; have GW133 := n3_; have GE133 := n4_; clear n0_ n1_ n2_ n3_ n4_; clear hb hbox hg; have hcz11_0 : w10.cell? ⟨gb133, 0, none⟩ = some (.bool false) := (blk_cell BK133.out 0).trans rfl; have hcz11_1 : w10.cell? ⟨gb133, 1, none⟩ = some (.string (⟨#[]⟩ : ByteArray)) := (blk_cell BK133.out 1).trans rfl; have hcz11_2 : w10.cell? ⟨gb133, 2, none⟩ = some (.int .i64 0) := (blk_cell BK133.out 2).trans rfl; have hfz11_0 := blk_frozen BK133.out 0; have hfz11_1 := blk_frozen BK133.out 1; have hfz11_2 := blk_frozen BK133.out 2; obtain ⟨Ao12, co12, eo12⟩ := Kd.R_slice HO_5.out; subst eo12) | ((with_reducible refine gate_callee (f := 37) rfl ?_); refine goesL_ (some 19) rfl rfl Try.func37 (by kernel_rfl) rfl #[.slice Ao12 x5_1.length co12, .string ((rd_T37 l1 x12_1).f1)] rfl (by (try simp only [List.map_toArray, List.map_cons, List.map_nil]); first | done | rfl | (simp only [List.length_drop, List.length_take]; rfl)) ?_; (with_reducible refine (slices_Contains_string_string.calls k1 _ _ x5_1 ((rd_T37 l1 x12_1).f1) true _ ?side1 ?side2 A8.out).mono ?_); (case side1 => refine (Kd.R_reads' (e := 9) (base := w.heap.size) (ok := fun k_ => True) (n := x5_1.length) (c := co12) ?_).2.2; exact (by (with_reducible repeat (first | apply Kd.R_alloc | apply Kd.R_drewN | apply Kd.R_drew)); exact (Kd.R_mono (Kd.R_far (p := ⟨gb133, 2, none⟩) (Kd.R_far (p := ⟨gb133, 1, none⟩) (Kd.R_far (p := ⟨gb133, 0, none⟩) (Kd.R_types HO_5.out BK133.out (by decide)) (fun _ hk => hk.2) (.bool ((rd_T37 l1 x12_1).f0))) (fun _ hk => hk.2) (.string ((rd_T37 l1 x12_1).f1))) (fun _ hk => hk.2) (.int .i64 ((rd_T37 l1 x12_1).f2))) (fun _ h_ => h_.1)))); (case side2 => exact (Kd.R_reads' HO_5.out).2.1); rintro e w' ⟨rfl, ⟨nd, rfl⟩⟩; refine ⟨_, rfl, ?_⟩))
              go_roundg k1
              case measure => have := HK1.out; omega
              case rel => exact ⟨(x5_1), (wrap64 (x12_1 + 1)), (by first | rfl | (simp; done) | (simp [*]; done)), H', ⟨by have := HK1.out; omega⟩, ⟨by (with_reducible repeat (first | apply Kd.R_alloc | apply Kd.R_drewN | apply Kd.R_drew)); exact Kd.R_mono (Kd.R_far (p := ⟨gb133, 2, none⟩) (Kd.R_far (p := ⟨gb133, 1, none⟩) (Kd.R_far (p := ⟨gb133, 0, none⟩) (Kd.R_types HO_5.out BK133.out (by decide)) (fun _ hk => hk.2) (.bool ((rd_T37 l1 x12_1).f0))) (fun _ hk => hk.2) (.string ((rd_T37 l1 x12_1).f1))) (fun _ hk => hk.2) (.int .i64 ((rd_T37 l1 x12_1).f2))) (fun _ hk => trivial)⟩, ⟨by repeat (first | (with_reducible first | exact HB.out | apply below_alloc | apply pw_below_drewN | apply below_drew1 | refine below_set ?_ GE133.out) | exact HB.out)⟩⟩
            · replace c9 := Bool.eq_false_iff.mpr c9
              subst c9
              have H1 : (if x5_1.length < 8796093022208 then (chain_Classes.l0 k1 (x5_1 ++ [(rd_T37 l1 x12_1).f1]) l1 (l1.length : Int) (wrap64 (x12_1 + 1))) else (none)) = some r := by rw [if_neg (show ¬ (false = true) by decide)] at H; exact H
              clear H
              have H := H1
              clear H1
              by_cases c13 : x5_1.length < 8796093022208
              · rw [if_pos c13] at H
                have LMc13 := Aside0.mk c13
                clear c13
                obtain ⟨y135, hy135⟩ : ∃ y_ : List ByteArray, y_ = (x5_1 ++ [(rd_T37 l1 x12_1).f1]) := ⟨_, rfl⟩
                replace H : (chain_Classes.l0 k1 y135 l1 (l1.length : Int) (wrap64 (x12_1 + 1))) = some r := by first | (rw [hy135]; with_reducible exact H) | (have H2_ := (Option.bind_some _ _).symm.trans H; rw [hy135]; with_reducible exact H2_) | (have H2_ := (Option.bind_some _ _).symm.trans H; with_reducible exact H2_) | with_reducible exact H | (rw [hy135]; exact H) | exact H
                have Ny135 := Aside0.mk hy135
                clear hy135
                have H' := Aside0.mk H
                clear H
                have p132 : 0 ≤ (x12_1 : Int) := of_decide_eq_true (by first | (with_reducible assumption) | assumption)
                have q132 : x12_1 < (l1.length : Int) := of_decide_eq_true (by first | (with_reducible assumption) | assumption)
                obtain ⟨ad132, e132, hx132_0, hx132_1, hx132_2⟩ := at_T37 HR1.out x12_1 p132 q132
                cases e132
                replace hx132_0 := (HB.out.cell (World.block_lt_of_cell? w _ hx132_0)).trans hx132_0
                replace hx132_1 := (HB.out.cell (World.block_lt_of_cell? w _ hx132_1)).trans hx132_1
                replace hx132_2 := (HB.out.cell (World.block_lt_of_cell? w _ hx132_2)).trans hx132_2
                replace p132 := eq_true p132
                replace q132 := eq_true q132
                go_wp2_with (first | ((with_reducible refine gate_dst (N := 7) rfl ?_); refine box_event ?hg (N := 7) ?hd (cs := #[.bool false, .string (⟨#[]⟩ : ByteArray), .int .i64 0]) (t := 37) ?hr ?_; (case hd => rfl); (case hg => rfl); (case hr => first | (go_simp; done) | (go_simp; rfl)); intro gb133 hg w14 hbox hb; have n0_ := Aside0.mk (Kd.R_below (by (with_reducible repeat (first | apply Kd.R_alloc | apply Kd.R_drewN | apply Kd.R_drew)); exact HO_5.out) hb); have n1_ := Aside0.mk (below_step (by repeat (first | (with_reducible first | exact HB.out | apply below_alloc | apply pw_below_drewN | apply below_drew1) | exact HB.out)) hb); have n2_ := Aside0.mk (hbox); have n3_ := Aside0.mk ((by rw [hg]; exact (below_size (by repeat (first | (with_reducible first | exact HB.out | apply below_alloc | apply pw_below_drewN | apply below_drew1) | exact HB.out))) : w.heap.size ≤ gb133)); have n4_ := Aside0.mk ((by rw [hg]; exact (below_size (by repeat (first | (with_reducible first | exact HB.out | apply below_alloc | apply pw_below_drewN | apply below_drew1) | exact HB.out))) : w.heap.size ≤ gb133)); clear HO_5; clear HB; have HO_5 := n0_; have HB := n1_; have BK133 := n2_; have GW133 := n3_; have GE133 := n4_; clear n0_ n1_ n2_ n3_ n4_; clear hb hbox hg; have hcz15_0 : w14.cell? ⟨gb133, 0, none⟩ = some (.bool false) := (blk_cell BK133.out 0).trans rfl; have hcz15_1 : w14.cell? ⟨gb133, 1, none⟩ = some (.string (⟨#[]⟩ : ByteArray)) := (blk_cell BK133.out 1).trans rfl; have hcz15_2 : w14.cell? ⟨gb133, 2, none⟩ = some (.int .i64 0) := (blk_cell BK133.out 2).trans rfl; have hfz15_0 := blk_frozen BK133.out 0; have hfz15_1 := blk_frozen BK133.out 1; have hfz15_2 := blk_frozen BK133.out 2; obtain ⟨Ao16, co16, eo16⟩ := Kd.R_slice HO_5.out; subst eo16) | ((with_reducible refine gate_callee (f := 37) rfl ?_); refine goesL_ (some 19) rfl rfl Try.func37 (by kernel_rfl) rfl #[.slice Ao16 x5_1.length co16, .string ((rd_T37 l1 x12_1).f1)] rfl (by (try simp only [List.map_toArray, List.map_cons, List.map_nil]); first | done | rfl | (simp only [List.length_drop, List.length_take]; rfl)) ?_; (with_reducible refine (slices_Contains_string_string.calls k1 _ _ x5_1 ((rd_T37 l1 x12_1).f1) false _ ?side1 ?side2 A8.out).mono ?_); (case side1 => refine (Kd.R_reads' (e := 9) (base := w.heap.size) (ok := fun k_ => True) (n := x5_1.length) (c := co16) ?_).2.2; exact (by (with_reducible repeat (first | apply Kd.R_alloc | apply Kd.R_drewN | apply Kd.R_drew)); exact (Kd.R_mono (Kd.R_far (p := ⟨gb133, 2, none⟩) (Kd.R_far (p := ⟨gb133, 1, none⟩) (Kd.R_far (p := ⟨gb133, 0, none⟩) (Kd.R_types HO_5.out BK133.out (by decide)) (fun _ hk => hk.2) (.bool ((rd_T37 l1 x12_1).f0))) (fun _ hk => hk.2) (.string ((rd_T37 l1 x12_1).f1))) (fun _ hk => hk.2) (.int .i64 ((rd_T37 l1 x12_1).f2))) (fun _ h_ => h_.1)))); (case side2 => exact (Kd.R_reads' HO_5.out).2.1); rintro e w' ⟨rfl, ⟨nd, rfl⟩⟩; refine ⟨_, rfl, ?_⟩) | ((with_reducible refine gate_builtin (b := .append) (xs := #[.tmp 21, .tmp 24]) rfl ?_); at_builtin; refine Kd.R_append Kd.string (w0 := w) w.heap.size rfl (.tmp 21) (.tmp 24) 26 9 (.string ⟨#[]⟩) 16 rfl Try.underlying26 info9 rfl (by decide) (by omega) (.slice Ao16 x5_1.length co16) x5_1 ((rd_T37 l1 x12_1).f1) [.string ((rd_T37 l1 x12_1).f1)] (fun _ => True) (fun _ => False) rfl (by first | (go_simp; done) | (go_simp; rfl)) ?aP (fun _ hk => hk.elim) ?aF ?aO ?aB ?aS ?aL ?_; (case aP => exact rfl); (case aB => exact (by repeat (first | (with_reducible first | exact HB.out | apply below_alloc | apply pw_below_drewN | apply below_drew1 | refine below_set ?_ GE133.out) | exact HB.out))); (case aF => exact (fun _ _ => trivial)); (case aO => exact (by (with_reducible repeat (first | apply Kd.R_alloc | apply Kd.R_drewN | apply Kd.R_drew)); exact Kd.R_mono (Kd.R_far (p := ⟨gb133, 2, none⟩) (Kd.R_far (p := ⟨gb133, 1, none⟩) (Kd.R_far (p := ⟨gb133, 0, none⟩) (Kd.R_types HO_5.out BK133.out (by decide)) (fun _ hk => hk.2) (.bool ((rd_T37 l1 x12_1).f0))) (fun _ hk => hk.2) (.string ((rd_T37 l1 x12_1).f1))) (fun _ hk => hk.2) (.int .i64 ((rd_T37 l1 x12_1).f2))) (fun _ hk => trivial))); (case aS => exact (below_size (by repeat (first | (with_reducible first | exact HB.out | apply below_alloc | apply pw_below_drewN | apply below_drew1 | refine below_set ?_ GE133.out) | exact HB.out)))); (case aL => have := LMc13.out; omega); intro v136 w17 ho hb hg hat; rw [← Ny135.out] at ho; have n0_ := Aside0.mk (blk_grown (g := gb133) (o := .cells #[.bool ((rd_T37 l1 x12_1).f0), .string ((rd_T37 l1 x12_1).f1), .int .i64 ((rd_T37 l1 x12_1).f2)] 37 (0, 0)) (by (with_reducible repeat (first | refine blk_drewN ?_ _ | refine blk_drew ?_ | refine blk_alloc ?_ _)); refine blk_put (cs := #[.bool ((rd_T37 l1 x12_1).f0), .string ((rd_T37 l1 x12_1).f1), .int .i64 0]) ?_ 2 _ rfl; (with_reducible repeat (first | refine blk_drewN ?_ _ | refine blk_drew ?_ | refine blk_alloc ?_ _)); refine blk_put (cs := #[.bool ((rd_T37 l1 x12_1).f0), .string (⟨#[]⟩ : ByteArray), .int .i64 0]) ?_ 1 _ rfl; (with_reducible repeat (first | refine blk_drewN ?_ _ | refine blk_drew ?_ | refine blk_alloc ?_ _)); refine blk_put (cs := #[.bool false, .string (⟨#[]⟩ : ByteArray), .int .i64 0]) ?_ 0 _ rfl; (with_reducible repeat (first | refine blk_drewN ?_ _ | refine blk_drew ?_ | refine blk_alloc ?_ _)); exact BK133.out) hg (Kd.R_ne HO_5.out BK133.out (by decide))); have n1_ := Aside0.mk (hb); have n2_ := Aside0.mk (ho); clear BK133; clear HB; clear HO_5; have BK133 := n0_; have HB := n1_; have HO137 := n2_; clear n0_ n1_ n2_; clear ho hb hg hat))
                go_roundg k1
                case measure => have := HK1.out; omega
                case rel => exact ⟨(y135), (wrap64 (x12_1 + 1)), (by first | rfl | (simp; done) | (simp [*]; done)), H', ⟨by have := HK1.out; omega⟩, ⟨by (with_reducible repeat (first | apply Kd.R_alloc | apply Kd.R_drewN | apply Kd.R_drew)); exact HO137.out⟩, ⟨by repeat (first | (with_reducible first | exact HB.out | apply below_alloc | apply pw_below_drewN | apply below_drew1 | refine below_set ?_ GE133.out) | exact HB.out)⟩⟩
              · rw [if_neg c13] at H
                exact absurd H (by simp)
          · rw [if_neg c7] at H
            exact absurd H (by simp)
        · rw [if_neg c6] at H
          exact absurd H (by simp)
      · rw [if_neg c5] at H
        have c5b0 : decide (x12_1 < (l1.length : Int)) = false := decide_eq_false c5
        clear c5
        obtain rfl := Option.some.inj H
        go_wp2
        go_ret
        exact ⟨_, by first | rfl | (simp [errW_none, errW_some] <;> rfl) | (simp [*, errW_none, errW_some] <;> rfl), by (with_reducible repeat (first | apply Kd.R_alloc | apply Kd.R_drewN | apply Kd.R_drew)); exact HO_5.out, by repeat (first | (with_reducible first | exact HB.out | apply below_alloc | apply pw_below_drewN | apply below_drew1) | exact HB.out)⟩

/-! ### chaperonref10_Bound: function 14 -/
def chaperonref10_Bound.f (a0 : Int) : Option (Int × Int) := if a0 < 0 then (some (0, 3)) else (if a0 > 40 then (some (0, 3)) else (some (wrap64 ((wrap64 (2 * (wrap64 (2 * a0)))) * (wrap64 ((wrap64 (2 * a0)) + 1))), 0)))
set_option maxHeartbeats 8000000 in
set_option maxRecDepth 100000 in
theorem chaperonref10_Bound.calls (a0 : Int) (r1 : Int) (r2 : Int) (w : World) (h : chaperonref10_Bound.f a0 = some (r1, r2)) :
    Calls Try.prog 14 #[.int .i64 a0] w fun e w' => e = .returned (.tuple #[.int .i64 r1, .int .i64 r2]) ∧ Drawn0 w w' := by
  have H : (if a0 < 0 then (some (0, 3)) else (if a0 > 40 then (some (0, 3)) else (some (wrap64 ((wrap64 (2 * (wrap64 (2 * a0)))) * (wrap64 ((wrap64 (2 * a0)) + 1))), 0)))) = some (r1, r2) := h
  clear h
  by_cases c2 : a0 < 0
  · rw [if_pos c2] at H
    have c2b0 : decide (a0 < 0) = true := decide_eq_true c2
    clear c2
    simp only [Option.some.injEq, Prod.mk.injEq] at H
    obtain ⟨rfl, rfl⟩ := H
    go_enter Try.func14, Try.ntmps14
    go_wp2
    go_ret2
    exact ⟨by first | rfl | (simp; done) | (simp [*]; done), by repeat (first | exact Drawn0.refl _ | apply Drawn0.step)⟩
  · rw [if_neg c2] at H
    have c2b0 : decide (a0 < 0) = false := decide_eq_false c2
    clear c2
    by_cases c3 : a0 > 40
    · rw [if_pos c3] at H
      have c3b0 : decide (40 < a0) = true := decide_eq_true c3
      clear c3
      simp only [Option.some.injEq, Prod.mk.injEq] at H
      obtain ⟨rfl, rfl⟩ := H
      go_enter Try.func14, Try.ntmps14
      go_wp2
      go_ret2
      exact ⟨by first | rfl | (simp; done) | (simp [*]; done), by repeat (first | exact Drawn0.refl _ | apply Drawn0.step)⟩
    · rw [if_neg c3] at H
      have c3b0 : decide (40 < a0) = false := decide_eq_false c3
      clear c3
      simp only [Option.some.injEq, Prod.mk.injEq] at H
      obtain ⟨rfl, rfl⟩ := H
      go_enter Try.func14, Try.ntmps14
      go_wp2
      go_ret2
      exact ⟨by first | rfl | (simp; done) | (simp [*]; done), by repeat (first | exact Drawn0.refl _ | apply Drawn0.step)⟩

/-! ### chaperonkit_SameTexts: function 15 -/
def chaperonkit_SameTexts.l0 : Nat → List ByteArray → List ByteArray → Bool → Int → Option (Bool)
  | 0, _, _, _, _ => none
  | k + 1, x0, x1, x5, x6 => if x5 = true then (if x6 < (x0.length : Int) then (if 0 ≤ x6 then (if x6 < (x1.length : Int) then (chaperonkit_SameTexts.l0 k x0 x1 ((rdOf ByteArray.empty x0 x6).toList == (rdOf ByteArray.empty x1 x6).toList) (wrap64 (x6 + 1))) else (none)) else (none)) else (some x5)) else (some x5)
def chaperonkit_SameTexts.f (k : Nat) (l0 : List ByteArray) (l1 : List ByteArray) : Option (Bool) := chaperonkit_SameTexts.l0 k l0 l1 ((l0.length : Int) == (l1.length : Int)) 0
theorem chaperonkit_SameTexts.mono_l : ∀ k, (∀ y0 y1 y2 y3, LeO (chaperonkit_SameTexts.l0 k y0 y1 y2 y3) (chaperonkit_SameTexts.l0 (k + 1) y0 y1 y2 y3))
  | 0 => fun _ _ _ _ r h => by simp [chaperonkit_SameTexts.l0] at h
  | k + 1 => by
    have ih0 := chaperonkit_SameTexts.mono_l k
    · intro y0 y1 y2 y3
      unfold chaperonkit_SameTexts.l0
      repeat' first
      | (with_reducible exact ih0 _ _ _ _)
      | (with_reducible exact LeO.refl _)
      | (with_reducible exact LeO.none _)
      | (with_reducible refine LeO.ite ?_ ?_)
      | (with_reducible refine LeO.bind ?_ (fun _ => ?_))
      | exact ih0 _ _ _ _
      | exact LeO.none _
      | refine LeO.ite ?_ ?_
      | refine LeO.bind ?_ (fun _ => ?_)
theorem chaperonkit_SameTexts.mono : ∀ a0 a1 k, LeO (chaperonkit_SameTexts.f k a0 a1) (chaperonkit_SameTexts.f (k + 1) a0 a1) := by
  intro a0 a1 k
  have ih0 := chaperonkit_SameTexts.mono_l k
  unfold chaperonkit_SameTexts.f
  repeat' first
      | (with_reducible exact ih0 _ _ _ _)
      | (with_reducible exact LeO.refl _)
      | (with_reducible exact LeO.none _)
      | (with_reducible refine LeO.ite ?_ ?_)
      | (with_reducible refine LeO.bind ?_ (fun _ => ?_))
      | exact ih0 _ _ _ _
      | exact LeO.none _
      | refine LeO.ite ?_ ?_
      | refine LeO.bind ?_ (fun _ => ?_)
set_option maxHeartbeats 8000000 in
set_option maxRecDepth 100000 in
theorem chaperonkit_SameTexts.calls (k : Nat) (A0 : Option Addr) (c0 : Nat) (l0 : List ByteArray) (A1 : Option Addr) (c1 : Nat) (l1 : List ByteArray) (r : Bool) (w : World) (hr0 : Kd.C Kd.string w A0 l0.length l0) (hc0 : l0.length ≤ c0) (hr1 : Kd.C Kd.string w A1 l1.length l1) (hc1 : l1.length ≤ c1) (h : chaperonkit_SameTexts.f k l0 l1 = some r) :
    Calls Try.prog 15 #[.slice A0 l0.length c0, .slice A1 l1.length c1] w fun e w' => e = .returned (.bool r) ∧ Drawn0 w w' := by
  have HR0 := Aside0.mk hr0
  have HC0 := Aside0.mk hc0
  clear hr0 hc0
  have HR1 := Aside0.mk hr1
  have HC1 := Aside0.mk hc1
  clear hr1 hc1
  have H : (chaperonkit_SameTexts.l0 k l0 l1 ((l0.length : Int) == (l1.length : Int)) 0) = some r := h
  clear h
  have H' := Aside0.mk H
  clear H
  go_enter Try.func15, Try.ntmps15
  go_wp2
  repeat (go_quiet (fail); try go_wp2)
  go_loopg [5, 6] k (fun kq v5 v6 w' => ∃ (x5_1 : Bool) (x6_1 : Int), v5 = .bool x5_1 ∧ v6 = .int .i64 x6_1 ∧ Aside0 (chaperonkit_SameTexts.l0 kq l0 l1 x5_1 x6_1 = some r) ∧ Aside0 (kq ≤ k) ∧ Drawn0 w w')
  case atStart => exact ⟨(((l0.length : Int) == (l1.length : Int))), (0), (by first | rfl | (simp; done) | (simp [*]; done)), (by first | rfl | (simp; done) | (simp [*]; done)), H', ⟨Nat.le_refl _⟩, by repeat (first | exact Drawn0.refl _ | apply Drawn0.step)⟩
  case round =>
    clear H'
    try clear c1
    try clear p2
    obtain ⟨x5_1, x6_1, rfl, rfl, HA, HK1, ⟨m1, rfl⟩⟩ := hrel
    cases gk with
    | zero => exact absurd HA.out (by simp [chaperonkit_SameTexts.l0])
    | succ k1 =>
      have H := HA.out
      clear HA
      simp only [chaperonkit_SameTexts.l0] at H
      by_cases c3 : x5_1 = true
      · subst c3
        have H1 : (if x6_1 < (l0.length : Int) then (if 0 ≤ x6_1 then (if x6_1 < (l1.length : Int) then (chaperonkit_SameTexts.l0 k1 l0 l1 ((rdOf ByteArray.empty l0 x6_1).toList == (rdOf ByteArray.empty l1 x6_1).toList) (wrap64 (x6_1 + 1))) else (none)) else (none)) else (some true)) = some r := by rw [if_pos rfl] at H; exact H
        clear H
        have H := H1
        clear H1
        by_cases c4 : x6_1 < (l0.length : Int)
        · rw [if_pos c4] at H
          have c4b0 : decide (x6_1 < (l0.length : Int)) = true := decide_eq_true c4
          clear c4
          by_cases c5 : 0 ≤ x6_1
          · rw [if_pos c5] at H
            have c5b0 : decide (0 ≤ x6_1) = true := decide_eq_true c5
            clear c5
            by_cases c6 : x6_1 < (l1.length : Int)
            · rw [if_pos c6] at H
              have c6b0 : decide (x6_1 < (l1.length : Int)) = true := decide_eq_true c6
              clear c6
              have H' := Aside0.mk H
              clear H
              have p138 : 0 ≤ (x6_1 : Int) := of_decide_eq_true (by first | (with_reducible assumption) | assumption)
              have q138 : x6_1 < (l0.length : Int) := of_decide_eq_true (by first | (with_reducible assumption) | assumption)
              obtain ⟨ad138, e138, hx138_0⟩ := Kd.at_string HR0.out x6_1 p138 q138
              cases e138
              replace p138 := eq_true p138
              replace q138 := eq_true q138
              have p139 : 0 ≤ (x6_1 : Int) := of_decide_eq_true (by first | (with_reducible assumption) | assumption)
              have q139 : x6_1 < (l1.length : Int) := of_decide_eq_true (by first | (with_reducible assumption) | assumption)
              obtain ⟨ad139, e139, hx139_0⟩ := Kd.at_string HR1.out x6_1 p139 q139
              cases e139
              replace p139 := eq_true p139
              replace q139 := eq_true q139
              go_wp2
              repeat (go_quiet (fail); try go_wp2)
              go_roundg k1
              case measure => have := HK1.out; omega
              case rel => exact ⟨(((rdOf ByteArray.empty l0 x6_1).toList == (rdOf ByteArray.empty l1 x6_1).toList)), (wrap64 (x6_1 + 1)), (by first | rfl | (simp; done) | (simp [*]; done)), (by first | rfl | (simp; done) | (simp [*]; done)), H', ⟨by have := HK1.out; omega⟩, by repeat (first | exact Drawn0.refl _ | apply Drawn0.step)⟩
            · rw [if_neg c6] at H
              exact absurd H (by simp)
          · rw [if_neg c5] at H
            exact absurd H (by simp)
        · rw [if_neg c4] at H
          have c4b0 : decide (x6_1 < (l0.length : Int)) = false := decide_eq_false c4
          clear c4
          obtain rfl := Option.some.inj H
          go_wp2
          repeat (go_quiet (fail); try go_wp2)
          go_ret
          exact ⟨by first | rfl | (simp; done) | (simp [*]; done), by repeat (first | exact Drawn0.refl _ | apply Drawn0.step)⟩
      · replace c3 := Bool.eq_false_iff.mpr c3
        subst c3
        have H1 : (some false) = some r := by rw [if_neg (show ¬ (false = true) by decide)] at H; exact H
        clear H
        have H := H1
        clear H1
        obtain rfl := Option.some.inj H
        go_wp2
        repeat (go_quiet (fail); try go_wp2)
        go_ret
        exact ⟨by first | rfl | (simp; done) | (simp [*]; done), by repeat (first | exact Drawn0.refl _ | apply Drawn0.step)⟩

end Go.Proofs.Ytokfalcmkmelpaa.PAll
