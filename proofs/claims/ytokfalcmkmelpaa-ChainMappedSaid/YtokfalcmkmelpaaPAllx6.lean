-- WRITTEN BY hand.py of this session, over the kit's print: a text of this seat
import Derived.Test.YtokfalcmkmelpaaPAllx0
import Derived.Test.YtokfalcmkmelpaaPAllx3
import Derived.Test.YtokfalcmkmelpaaPAllx5
namespace Go.Proofs.Ytokfalcmkmelpaa.PAll
open Go.RowKit Go.Proofs.YtokfalcmkmelpaaW.PrintWords Go.Proofs.YtokfalcmkmelpaaW.PrintLast Go.Proofs.YtokfalcmkmelpaaW.PrintMore
attribute [local go_sem] max2_int min2_int max_two min_two max_three min_three max_four min_four   -- for this text's walks alone
set_option linter.unusedVariables false
set_option linter.unusedSimpArgs false

/-! ### chaperonlaw10_awake: function 10 -/
def chaperonlaw10_awake.f (k : Nat) : Option Bool := some true
theorem chaperonlaw10_awake.mono : ∀ k, LeO (chaperonlaw10_awake.f k) (chaperonlaw10_awake.f (k + 1)) := fun _ => LeO.refl _
def chaperonlaw10_awake.l7 : List S37 := [⟨true, ⟨#[67]⟩, 1⟩, ⟨true, ⟨#[68]⟩, 2⟩, ⟨true, ⟨#[67]⟩, 3⟩, ⟨true, ⟨#[68]⟩, 4⟩, ⟨true, ⟨#[67]⟩, 5⟩, ⟨true, ⟨#[68]⟩, 6⟩, ⟨true, ⟨#[67]⟩, 7⟩]
def chaperonlaw10_awake.l6 : List S37 := [⟨true, ⟨#[67]⟩, 1⟩, ⟨true, ⟨#[68]⟩, 2⟩, ⟨true, ⟨#[67]⟩, 3⟩, ⟨true, ⟨#[67]⟩, 5⟩, ⟨true, ⟨#[68]⟩, 6⟩, ⟨true, ⟨#[67]⟩, 7⟩]
def chaperonlaw10_awake.l3 : List S37 := [(⟨true, ⟨#[67]⟩, 1⟩ : S37), (⟨true, ⟨#[67]⟩, 2⟩ : S37), (⟨true, ⟨#[67]⟩, 3⟩ : S37)]
def chaperonlaw10_awake.l2 : List S37 := [(⟨true, ⟨#[67]⟩, 1⟩ : S37), (⟨true, ⟨#[67]⟩, 3⟩ : S37)]
theorem chaperonlaw10_awake.n1 : chaperonlaw10_norms.f 10 chaperonlaw10_awake.l3 chaperonlaw10_awake.l2 = some true := by kernel_rfl
theorem chaperonlaw10_awake.n2 : chaperonlaw10_norms.f 10 chaperonlaw10_awake.l7 chaperonlaw10_awake.l6 = some true := by kernel_rfl
theorem chaperonlaw10_awake.t7 : chaperonlaw10_turns.f 10 7 = some chaperonlaw10_awake.l7 := by kernel_rfl
open Go.Proofs.YtokfalcmkmelpaaRF Go.Proofs.YtokfalcmkmelpaaRG in
set_option maxHeartbeats 2000000 in
set_option maxRecDepth 100000 in
theorem chaperonlaw10_awake.calls (k : Nat) (r : Bool) (w : World) (h : chaperonlaw10_awake.f k = some r) :
    Calls Try.prog 10 #[] w fun e w' => e = .returned (.bool r) ∧ Below w.heap.size w w' := by
  obtain rfl : true = r := Option.some.inj h
  clear h
  have hu := Try.underlying37
  go_enter Try.func10, Try.ntmps10
  go_wp2_with fail
  refine (chain_Bound.calls 1 12 0 _ (by kernel_rfl)).mono ?_
  rintro e w1 ⟨rfl, hd1⟩
  have HB1 := Aside0.mk (show Below w.heap.size w w1 from hd1.below)
  clear hd1
  go_wp2_with fail
  refine (chaperonlaw10_turns.calls 10 7 chaperonlaw10_awake.l7 _ chaperonlaw10_awake.t7).mono ?_
  rintro e w2 ⟨v, rfl, hr2, hb2⟩
  have HB2 := Aside0.mk (HB1.out.trans (hb2.mono HB1.out.size))
  obtain ⟨A, c, rfl, hc, hC⟩ := Kd.R_reads hr2
  have HC := Aside0.mk hC
  have HCC := Aside0.mk hc
  clear hr2 hb2 hC hc HB1
  rw [show chaperonlaw10_awake.l7.length = 7 from rfl] at HC HCC ⊢
  go_wp2_with fail
  replace HC := Aside0.mk (Kd.C_drew HC.out)
  refine rg_region (N := 48) 39 Grows (by kernel_rfl) (by kernel_rfl) rfl Grows.refl Grows.trans ?_
  rw [show List.range 39 = [0, 1, 2, 3, 4, 5, 6, 7, 8, 9, 10, 11, 12, 13, 14, 15, 16, 17, 18, 19, 20, 21, 22, 23, 24, 25, 26, 27, 28, 29, 30, 31, 32, 33, 34, 35, 36, 37, 38] from rfl]
  refine rg_call (fun v _ => v = .agg #[.bool true, .string ⟨#[67]⟩, .int .i64 1]) (fun _ _ _ _ h => h) rfl rfl Try.func30 (by kernel_rfl) rfl (fun _ _ _ _ => wanted_none rfl) ?_ ?_
  · intro a w' hr hs
    rw [show (#[Operand.const (.string ⟨#[67]⟩), Operand.const (.int .i64 1)] : Array Operand).map a.eval = #[.string ⟨#[67]⟩, .int .i64 1] by simp [Act.eval]]
    refine (chaperonlaw10_out.calls ⟨#[67]⟩ 1 true ⟨#[67]⟩ 1 _ rfl).mono ?_
    rintro e w3 ⟨rfl, hb⟩
    exact ⟨_, rfl, hb, rfl⟩
  refine rg_call (fun v _ => v = .agg #[.bool true, .string ⟨#[67]⟩, .int .i64 2]) (fun _ _ _ _ h => h) rfl rfl Try.func30 (by kernel_rfl) rfl (fun _ _ _ _ => wanted_none rfl) ?_ ?_
  · intro a w' hr hs
    rw [show (#[Operand.const (.string ⟨#[67]⟩), Operand.const (.int .i64 2)] : Array Operand).map a.eval = #[.string ⟨#[67]⟩, .int .i64 2] by simp [Act.eval]]
    refine (chaperonlaw10_out.calls ⟨#[67]⟩ 2 true ⟨#[67]⟩ 2 _ rfl).mono ?_
    rintro e w3 ⟨rfl, hb⟩
    exact ⟨_, rfl, hb, rfl⟩
  refine rg_call (fun v _ => v = .agg #[.bool true, .string ⟨#[67]⟩, .int .i64 3]) (fun _ _ _ _ h => h) rfl rfl Try.func30 (by kernel_rfl) rfl (fun _ _ _ _ => wanted_none rfl) ?_ ?_
  · intro a w' hr hs
    rw [show (#[Operand.const (.string ⟨#[67]⟩), Operand.const (.int .i64 3)] : Array Operand).map a.eval = #[.string ⟨#[67]⟩, .int .i64 3] by simp [Act.eval]]
    refine (chaperonlaw10_out.calls ⟨#[67]⟩ 3 true ⟨#[67]⟩ 3 _ rfl).mono ?_
    rintro e w3 ⟨rfl, hb⟩
    exact ⟨_, rfl, hb, rfl⟩
  refine rg_lit k37 37 chaperonlaw10_awake.l3 rfl rfl (fun _ _ _ _ => wanted_none rfl) (by decide) ?_ ?_
  · intro a w' hr hs
    have h0 := hs.get 2 rfl (by kernel_rfl) rfl
    have h1 := hs.get 1 rfl (by kernel_rfl) rfl
    have h2 := hs.get 0 rfl (by kernel_rfl) rfl
    simp only at h0 h1 h2
    refine ⟨[.bool true, .string ⟨#[67]⟩, .int .i64 1, .bool true, .string ⟨#[67]⟩, .int .i64 2, .bool true, .string ⟨#[67]⟩, .int .i64 3], by go_simp; rfl, ?_⟩
    exact Reps.c3 (show Kd.M k37 _ _ _ (⟨true, ⟨#[67]⟩, 1⟩ : S37) [.bool true, .string ⟨#[67]⟩, .int .i64 1] from k37_mkM _ _ _ _) (Reps.c3 (show Kd.M k37 _ _ _ (⟨true, ⟨#[67]⟩, 2⟩ : S37) [.bool true, .string ⟨#[67]⟩, .int .i64 2] from k37_mkM _ _ _ _) (Reps.c3 (show Kd.M k37 _ _ _ (⟨true, ⟨#[67]⟩, 3⟩ : S37) [.bool true, .string ⟨#[67]⟩, .int .i64 3] from k37_mkM _ _ _ _) (Reps.none _ _)))
  refine rg_call (fun v _ => v = .agg #[.bool true, .string ⟨#[67]⟩, .int .i64 1]) (fun _ _ _ _ h => h) rfl rfl Try.func30 (by kernel_rfl) rfl (fun _ _ _ _ => wanted_none rfl) ?_ ?_
  · intro a w' hr hs
    rw [show (#[Operand.const (.string ⟨#[67]⟩), Operand.const (.int .i64 1)] : Array Operand).map a.eval = #[.string ⟨#[67]⟩, .int .i64 1] by simp [Act.eval]]
    refine (chaperonlaw10_out.calls ⟨#[67]⟩ 1 true ⟨#[67]⟩ 1 _ rfl).mono ?_
    rintro e w3 ⟨rfl, hb⟩
    exact ⟨_, rfl, hb, rfl⟩
  refine rg_call (fun v _ => v = .agg #[.bool true, .string ⟨#[67]⟩, .int .i64 3]) (fun _ _ _ _ h => h) rfl rfl Try.func30 (by kernel_rfl) rfl (fun _ _ _ _ => wanted_none rfl) ?_ ?_
  · intro a w' hr hs
    rw [show (#[Operand.const (.string ⟨#[67]⟩), Operand.const (.int .i64 3)] : Array Operand).map a.eval = #[.string ⟨#[67]⟩, .int .i64 3] by simp [Act.eval]]
    refine (chaperonlaw10_out.calls ⟨#[67]⟩ 3 true ⟨#[67]⟩ 3 _ rfl).mono ?_
    rintro e w3 ⟨rfl, hb⟩
    exact ⟨_, rfl, hb, rfl⟩
  refine rg_lit k37 37 chaperonlaw10_awake.l2 rfl rfl (fun _ _ _ _ => wanted_none rfl) (by decide) ?_ ?_
  · intro a w' hr hs
    have h4 := hs.get 1 rfl (by kernel_rfl) rfl
    have h5 := hs.get 0 rfl (by kernel_rfl) rfl
    simp only at h4 h5
    refine ⟨[.bool true, .string ⟨#[67]⟩, .int .i64 1, .bool true, .string ⟨#[67]⟩, .int .i64 3], by go_simp; rfl, ?_⟩
    exact Reps.c3 (show Kd.M k37 _ _ _ (⟨true, ⟨#[67]⟩, 1⟩ : S37) [.bool true, .string ⟨#[67]⟩, .int .i64 1] from k37_mkM _ _ _ _) (Reps.c3 (show Kd.M k37 _ _ _ (⟨true, ⟨#[67]⟩, 3⟩ : S37) [.bool true, .string ⟨#[67]⟩, .int .i64 3] from k37_mkM _ _ _ _) (Reps.none _ _))
  refine rg_call (fun v _ => v = .bool true) (fun _ _ _ _ h => h) rfl rfl Try.func29 (by kernel_rfl) rfl (fun _ _ _ _ => wanted_none rfl) ?_ ?_
  · intro a w' hr hs
    obtain ⟨A1, c1, h1, hc1, hC1⟩ := hs.get 3 rfl (by kernel_rfl) rfl
    obtain ⟨A2, c2, h2, hc2, hC2⟩ := hs.get 0 rfl (by kernel_rfl) rfl
    have h6 : (#[Operand.tmp 12, Operand.tmp 15] : Array Operand).map a.eval = #[.slice A1 chaperonlaw10_awake.l3.length c1, .slice A2 chaperonlaw10_awake.l2.length c2] := by simp [Act.eval, h1, h2]
    rw [h6]
    refine (chaperonlaw10_norms.calls 10 A1 c1 chaperonlaw10_awake.l3 A2 c2 chaperonlaw10_awake.l2 true _ hC1 hc1 hC2 hc2 chaperonlaw10_awake.n1).mono ?_
    rintro e w3 ⟨rfl, hb⟩
    exact ⟨_, rfl, hb, rfl⟩
  refine rg_val (.bool true) Grows.refl rfl (fun _ _ _ _ => wanted_none rfl) ?_ ?_
  · intro a w' hr hs
    have h7 := hs.get 0 rfl (by kernel_rfl) rfl
    simp only at h7
    go_simp
  refine rg_op (Rowed k37 chaperonlaw10_awake.l7) (fun _ _ _ hg hx => hx.grows hg) (fun o' ho' a w' hr hs => ?_) ?_
  · obtain rfl := Option.some.inj ho'
    have hg := hs.get 0 rfl (by kernel_rfl) rfl; simp only at hg
    have o3 := hs.out 3 (by kernel_rfl); simp only at o3
    rw [if_pos (on_guard (g := 8) (t := 17) rfl rfl hg)]
    unfold Oper.wp
    rw [show (execOp a.eval _).run Try.prog w' = .ok (.value (.slice A 7 c)) w' by go_simp]
    exact ⟨_, rfl, Grows.refl _, A, c, rfl, HCC.out, Kd.C_below HC.out hr⟩
  refine rg_val (.slice A 7 c) Grows.refl rfl (fun a w hr hs => on_guard (g := 8) (t := 17) rfl rfl (hs.get 1 rfl (by kernel_rfl) rfl)) ?_ ?_
  · intro a w' hr hs
    have o3 := hs.out 3 (by kernel_rfl)
    simp only at o3
    go_simp
  obtain ⟨ad0, hA0⟩ : ∃ ad, A = some ad := by obtain ⟨ad, h, _⟩ := at_T37 HC.out 0 (by decide) (by decide); exact ⟨ad, h⟩
  subst hA0
  refine rg_val (.pointer (some (ad0.add (0 * 3)))) Grows.refl rfl (fun a w hr hs => on_guard (g := 8) (t := 17) rfl rfl (hs.get 2 rfl (by kernel_rfl) rfl)) ?_ ?_
  · intro a w' hr hs
    have h10 := hs.get 0 rfl (by kernel_rfl) rfl
    simp only at h10
    go_simp
  refine rg_val (.agg #[.bool true, .string ⟨#[67]⟩, .int .i64 1]) Grows.refl rfl (fun a w hr hs => on_guard (g := 8) (t := 17) rfl rfl (hs.get 3 rfl (by kernel_rfl) rfl)) ?_ ?_
  · intro a w' hr hs
    have h11 := hs.get 0 rfl (by kernel_rfl) rfl
    simp only at h11
    obtain ⟨ad', e1, x0, x1, x2⟩ := at_T37 (Kd.C_below HC.out hr) 0 (by decide) (by decide)
    cases e1
    rw [show rd_T37 chaperonlaw10_awake.l7 0 = ⟨true, ⟨#[67]⟩, 1⟩ from rfl] at x0 x1 x2
    simp only at x0 x1 x2
    obtain ⟨p, hp⟩ : ∃ p, p = ad0.add (0 * 3) := ⟨_, rfl⟩
    rw [← hp] at h11
    rw [show Int.toNat 0 * 3 = 0 * 3 from rfl, ← hp] at x0 x1 x2
    clear hp
    go_simp
  refine rg_val (.slice (some ad0) 7 c) Grows.refl rfl (fun a w hr hs => on_guard (g := 8) (t := 17) rfl rfl (hs.get 4 rfl (by kernel_rfl) rfl)) ?_ ?_
  · intro a w' hr hs
    have o3 := hs.out 3 (by kernel_rfl)
    simp only at o3
    go_simp
  refine rg_val (.pointer (some (ad0.add (1 * 3)))) Grows.refl rfl (fun a w hr hs => on_guard (g := 8) (t := 17) rfl rfl (hs.get 5 rfl (by kernel_rfl) rfl)) ?_ ?_
  · intro a w' hr hs
    have h13 := hs.get 0 rfl (by kernel_rfl) rfl
    simp only at h13
    go_simp
  refine rg_val (.agg #[.bool true, .string ⟨#[68]⟩, .int .i64 2]) Grows.refl rfl (fun a w hr hs => on_guard (g := 8) (t := 17) rfl rfl (hs.get 6 rfl (by kernel_rfl) rfl)) ?_ ?_
  · intro a w' hr hs
    have h14 := hs.get 0 rfl (by kernel_rfl) rfl
    simp only at h14
    obtain ⟨ad', e1, x0, x1, x2⟩ := at_T37 (Kd.C_below HC.out hr) 1 (by decide) (by decide)
    cases e1
    rw [show rd_T37 chaperonlaw10_awake.l7 1 = ⟨true, ⟨#[68]⟩, 2⟩ from rfl] at x0 x1 x2
    simp only at x0 x1 x2
    obtain ⟨p, hp⟩ : ∃ p, p = ad0.add (1 * 3) := ⟨_, rfl⟩
    rw [← hp] at h14
    rw [show Int.toNat 1 * 3 = 1 * 3 from rfl, ← hp] at x0 x1 x2
    clear hp
    go_simp
  refine rg_val (.slice (some ad0) 7 c) Grows.refl rfl (fun a w hr hs => on_guard (g := 8) (t := 17) rfl rfl (hs.get 7 rfl (by kernel_rfl) rfl)) ?_ ?_
  · intro a w' hr hs
    have o3 := hs.out 3 (by kernel_rfl)
    simp only at o3
    go_simp
  refine rg_val (.pointer (some (ad0.add (2 * 3)))) Grows.refl rfl (fun a w hr hs => on_guard (g := 8) (t := 17) rfl rfl (hs.get 8 rfl (by kernel_rfl) rfl)) ?_ ?_
  · intro a w' hr hs
    have h16 := hs.get 0 rfl (by kernel_rfl) rfl
    simp only at h16
    go_simp
  refine rg_val (.agg #[.bool true, .string ⟨#[67]⟩, .int .i64 3]) Grows.refl rfl (fun a w hr hs => on_guard (g := 8) (t := 17) rfl rfl (hs.get 9 rfl (by kernel_rfl) rfl)) ?_ ?_
  · intro a w' hr hs
    have h17 := hs.get 0 rfl (by kernel_rfl) rfl
    simp only at h17
    obtain ⟨ad', e1, x0, x1, x2⟩ := at_T37 (Kd.C_below HC.out hr) 2 (by decide) (by decide)
    cases e1
    rw [show rd_T37 chaperonlaw10_awake.l7 2 = ⟨true, ⟨#[67]⟩, 3⟩ from rfl] at x0 x1 x2
    simp only at x0 x1 x2
    obtain ⟨p, hp⟩ : ∃ p, p = ad0.add (2 * 3) := ⟨_, rfl⟩
    rw [← hp] at h17
    rw [show Int.toNat 2 * 3 = 2 * 3 from rfl, ← hp] at x0 x1 x2
    clear hp
    go_simp
  refine rg_val (.slice (some ad0) 7 c) Grows.refl rfl (fun a w hr hs => on_guard (g := 8) (t := 17) rfl rfl (hs.get 10 rfl (by kernel_rfl) rfl)) ?_ ?_
  · intro a w' hr hs
    have o3 := hs.out 3 (by kernel_rfl)
    simp only at o3
    go_simp
  refine rg_val (.pointer (some (ad0.add (4 * 3)))) Grows.refl rfl (fun a w hr hs => on_guard (g := 8) (t := 17) rfl rfl (hs.get 11 rfl (by kernel_rfl) rfl)) ?_ ?_
  · intro a w' hr hs
    have h19 := hs.get 0 rfl (by kernel_rfl) rfl
    simp only at h19
    go_simp
  refine rg_val (.agg #[.bool true, .string ⟨#[67]⟩, .int .i64 5]) Grows.refl rfl (fun a w hr hs => on_guard (g := 8) (t := 17) rfl rfl (hs.get 12 rfl (by kernel_rfl) rfl)) ?_ ?_
  · intro a w' hr hs
    have h20 := hs.get 0 rfl (by kernel_rfl) rfl
    simp only at h20
    obtain ⟨ad', e1, x0, x1, x2⟩ := at_T37 (Kd.C_below HC.out hr) 4 (by decide) (by decide)
    cases e1
    rw [show rd_T37 chaperonlaw10_awake.l7 4 = ⟨true, ⟨#[67]⟩, 5⟩ from rfl] at x0 x1 x2
    simp only at x0 x1 x2
    obtain ⟨p, hp⟩ : ∃ p, p = ad0.add (4 * 3) := ⟨_, rfl⟩
    rw [← hp] at h20
    rw [show Int.toNat 4 * 3 = 4 * 3 from rfl, ← hp] at x0 x1 x2
    clear hp
    go_simp
  refine rg_val (.slice (some ad0) 7 c) Grows.refl rfl (fun a w hr hs => on_guard (g := 8) (t := 17) rfl rfl (hs.get 13 rfl (by kernel_rfl) rfl)) ?_ ?_
  · intro a w' hr hs
    have o3 := hs.out 3 (by kernel_rfl)
    simp only at o3
    go_simp
  refine rg_val (.pointer (some (ad0.add (5 * 3)))) Grows.refl rfl (fun a w hr hs => on_guard (g := 8) (t := 17) rfl rfl (hs.get 14 rfl (by kernel_rfl) rfl)) ?_ ?_
  · intro a w' hr hs
    have h22 := hs.get 0 rfl (by kernel_rfl) rfl
    simp only at h22
    go_simp
  refine rg_val (.agg #[.bool true, .string ⟨#[68]⟩, .int .i64 6]) Grows.refl rfl (fun a w hr hs => on_guard (g := 8) (t := 17) rfl rfl (hs.get 15 rfl (by kernel_rfl) rfl)) ?_ ?_
  · intro a w' hr hs
    have h23 := hs.get 0 rfl (by kernel_rfl) rfl
    simp only at h23
    obtain ⟨ad', e1, x0, x1, x2⟩ := at_T37 (Kd.C_below HC.out hr) 5 (by decide) (by decide)
    cases e1
    rw [show rd_T37 chaperonlaw10_awake.l7 5 = ⟨true, ⟨#[68]⟩, 6⟩ from rfl] at x0 x1 x2
    simp only at x0 x1 x2
    obtain ⟨p, hp⟩ : ∃ p, p = ad0.add (5 * 3) := ⟨_, rfl⟩
    rw [← hp] at h23
    rw [show Int.toNat 5 * 3 = 5 * 3 from rfl, ← hp] at x0 x1 x2
    clear hp
    go_simp
  refine rg_val (.slice (some ad0) 7 c) Grows.refl rfl (fun a w hr hs => on_guard (g := 8) (t := 17) rfl rfl (hs.get 16 rfl (by kernel_rfl) rfl)) ?_ ?_
  · intro a w' hr hs
    have o3 := hs.out 3 (by kernel_rfl)
    simp only at o3
    go_simp
  refine rg_val (.pointer (some (ad0.add (6 * 3)))) Grows.refl rfl (fun a w hr hs => on_guard (g := 8) (t := 17) rfl rfl (hs.get 17 rfl (by kernel_rfl) rfl)) ?_ ?_
  · intro a w' hr hs
    have h25 := hs.get 0 rfl (by kernel_rfl) rfl
    simp only at h25
    go_simp
  refine rg_val (.agg #[.bool true, .string ⟨#[67]⟩, .int .i64 7]) Grows.refl rfl (fun a w hr hs => on_guard (g := 8) (t := 17) rfl rfl (hs.get 18 rfl (by kernel_rfl) rfl)) ?_ ?_
  · intro a w' hr hs
    have h26 := hs.get 0 rfl (by kernel_rfl) rfl
    simp only at h26
    obtain ⟨ad', e1, x0, x1, x2⟩ := at_T37 (Kd.C_below HC.out hr) 6 (by decide) (by decide)
    cases e1
    rw [show rd_T37 chaperonlaw10_awake.l7 6 = ⟨true, ⟨#[67]⟩, 7⟩ from rfl] at x0 x1 x2
    simp only at x0 x1 x2
    obtain ⟨p, hp⟩ : ∃ p, p = ad0.add (6 * 3) := ⟨_, rfl⟩
    rw [← hp] at h26
    rw [show Int.toNat 6 * 3 = 6 * 3 from rfl, ← hp] at x0 x1 x2
    clear hp
    go_simp
  refine rg_lit k37 37 chaperonlaw10_awake.l6 rfl rfl (fun a w hr hs => on_guard (g := 8) (t := 17) rfl rfl (hs.get 19 rfl (by kernel_rfl) rfl)) (by decide) ?_ ?_
  · intro a w' hr hs
    have h12 := hs.get 15 rfl (by kernel_rfl) rfl
    have h15 := hs.get 12 rfl (by kernel_rfl) rfl
    have h18 := hs.get 9 rfl (by kernel_rfl) rfl
    have h21 := hs.get 6 rfl (by kernel_rfl) rfl
    have h24 := hs.get 3 rfl (by kernel_rfl) rfl
    have h27 := hs.get 0 rfl (by kernel_rfl) rfl
    simp only at h12 h15 h18 h21 h24 h27
    refine ⟨[.bool true, .string ⟨#[67]⟩, .int .i64 1, .bool true, .string ⟨#[68]⟩, .int .i64 2, .bool true, .string ⟨#[67]⟩, .int .i64 3, .bool true, .string ⟨#[67]⟩, .int .i64 5, .bool true, .string ⟨#[68]⟩, .int .i64 6, .bool true, .string ⟨#[67]⟩, .int .i64 7], by go_simp; rfl, ?_⟩
    exact Reps.c3 (show Kd.M k37 _ _ _ (⟨true, ⟨#[67]⟩, 1⟩ : S37) [.bool true, .string ⟨#[67]⟩, .int .i64 1] from k37_mkM _ _ _ _) (Reps.c3 (show Kd.M k37 _ _ _ (⟨true, ⟨#[68]⟩, 2⟩ : S37) [.bool true, .string ⟨#[68]⟩, .int .i64 2] from k37_mkM _ _ _ _) (Reps.c3 (show Kd.M k37 _ _ _ (⟨true, ⟨#[67]⟩, 3⟩ : S37) [.bool true, .string ⟨#[67]⟩, .int .i64 3] from k37_mkM _ _ _ _) (Reps.c3 (show Kd.M k37 _ _ _ (⟨true, ⟨#[67]⟩, 5⟩ : S37) [.bool true, .string ⟨#[67]⟩, .int .i64 5] from k37_mkM _ _ _ _) (Reps.c3 (show Kd.M k37 _ _ _ (⟨true, ⟨#[68]⟩, 6⟩ : S37) [.bool true, .string ⟨#[68]⟩, .int .i64 6] from k37_mkM _ _ _ _) (Reps.c3 (show Kd.M k37 _ _ _ (⟨true, ⟨#[67]⟩, 7⟩ : S37) [.bool true, .string ⟨#[67]⟩, .int .i64 7] from k37_mkM _ _ _ _) (Reps.none _ _))))))
  refine rg_call (fun v _ => v = .bool true) (fun _ _ _ _ h => h) rfl rfl Try.func29 (by kernel_rfl) rfl (fun a w hr hs => on_guard (g := 8) (t := 17) rfl rfl (hs.get 20 rfl (by kernel_rfl) rfl)) ?_ ?_
  · intro a w' hr hs
    obtain ⟨A1, c1, h1, hc1, hC1⟩ := hs.get 19 rfl (by kernel_rfl) rfl
    obtain ⟨A2, c2, h2, hc2, hC2⟩ := hs.get 0 rfl (by kernel_rfl) rfl
    have h6 : (#[Operand.tmp 18, Operand.tmp 37] : Array Operand).map a.eval = #[.slice A1 chaperonlaw10_awake.l7.length c1, .slice A2 chaperonlaw10_awake.l6.length c2] := by simp [Act.eval, h1, h2]
    rw [h6]
    refine (chaperonlaw10_norms.calls 10 A1 c1 chaperonlaw10_awake.l7 A2 c2 chaperonlaw10_awake.l6 true _ hC1 hc1 hC2 hc2 chaperonlaw10_awake.n2).mono ?_
    rintro e w3 ⟨rfl, hb⟩
    exact ⟨_, rfl, hb, rfl⟩
  refine rg_val (.bool true) Grows.refl rfl (fun _ _ _ _ => wanted_none rfl) ?_ ?_
  · intro a w' hr hs
    have h8 := hs.get 21 rfl (by kernel_rfl) rfl
    have h29 := hs.get 0 rfl (by kernel_rfl) rfl
    simp only at h8 h29
    go_simp
  refine rg_val (.bool true) Grows.refl rfl (fun _ _ _ _ => wanted_none rfl) ?_ ?_
  · intro a w' hr hs
    have h30 := hs.get 0 rfl (by kernel_rfl) rfl
    simp only at h30
    go_simp
  refine rg_val (.int .i64 12) Grows.refl rfl (fun a w hr hs => on_guard (g := 31) (t := 40) rfl rfl (hs.get 0 rfl (by kernel_rfl) rfl)) ?_ ?_
  · intro a w' hr hs
    have o1 := hs.out 1 (by kernel_rfl)
    simp only at o1
    go_simp
  refine rg_val (.bool true) Grows.refl rfl (fun a w hr hs => on_guard (g := 31) (t := 40) rfl rfl (hs.get 1 rfl (by kernel_rfl) rfl)) ?_ ?_
  · intro a w' hr hs
    have h32 := hs.get 0 rfl (by kernel_rfl) rfl
    simp only at h32
    go_simp
  refine rg_val (.bool true) Grows.refl rfl (fun _ _ _ _ => wanted_none rfl) ?_ ?_
  · intro a w' hr hs
    have h31 := hs.get 2 rfl (by kernel_rfl) rfl
    have h33 := hs.get 0 rfl (by kernel_rfl) rfl
    simp only at h31 h33
    go_simp
  refine rg_val (.bool true) Grows.refl rfl (fun _ _ _ _ => wanted_none rfl) ?_ ?_
  · intro a w' hr hs
    have h34 := hs.get 0 rfl (by kernel_rfl) rfl
    simp only at h34
    go_simp
  refine rg_val (.int .i64 0) Grows.refl rfl (fun a w hr hs => on_guard (g := 35) (t := 44) rfl rfl (hs.get 0 rfl (by kernel_rfl) rfl)) ?_ ?_
  · intro a w' hr hs
    have o2 := hs.out 2 (by kernel_rfl)
    simp only at o2
    go_simp
  refine rg_val (.bool true) Grows.refl rfl (fun a w hr hs => on_guard (g := 35) (t := 44) rfl rfl (hs.get 1 rfl (by kernel_rfl) rfl)) ?_ ?_
  · intro a w' hr hs
    have h36 := hs.get 0 rfl (by kernel_rfl) rfl
    simp only at h36
    go_simp
  refine rg_val (.bool true) Grows.refl rfl (fun _ _ _ _ => wanted_none rfl) ?_ ?_
  · intro a w' hr hs
    have h35 := hs.get 2 rfl (by kernel_rfl) rfl
    have h37 := hs.get 0 rfl (by kernel_rfl) rfl
    simp only at h35 h37
    go_simp
  intro vs w3 hr hE
  have e38 : vs 38 = .bool true := hE _ (.head _)
  have hB3 := Aside0.mk (show Below w.heap.size w w3 from HB2.out.trans (Below.mono (Below.trans (Below.refl w2.heap.size w2).drew hr) HB2.out.size))
  clear hE hr
  rw [show List.range 39 = [0, 1, 2, 3, 4, 5, 6, 7, 8, 9, 10, 11, 12, 13, 14, 15, 16, 17, 18, 19, 20, 21, 22, 23, 24, 25, 26, 27, 28, 29, 30, 31, 32, 33, 34, 35, 36, 37, 38] from rfl]
  simp only [putL, slotOf, List.getElem?_toArray, List.getElem?_cons_succ, List.getElem?_cons_zero, Option.bind_some, Act.put, List.setIfInBounds_toArray, List.set_cons_succ, List.set_cons_zero, e38]
  refine tail_val (i := 39) (r := []) (w' := w3) (.bool true) rfl (wanted_none rfl) (by go_simp) (tail_end ?_)
  change Exit.then _ _ Exit.normal (Act.put _ (some 0) _) w3
  simp only [Act.put, List.setIfInBounds_toArray, List.set_cons_succ, List.set_cons_zero]
  clear e38 HC HCC HB2
  go_wp2_with fail
  go_ret
  exact ⟨rfl, hB3.out⟩

end Go.Proofs.Ytokfalcmkmelpaa.PAll
