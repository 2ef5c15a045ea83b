-- WRITTEN BY hand.py of this session, over the kit's print: a text of this seat
import Derived.Test.YtokfalcmkmelpaaPAllx0
import Derived.Test.YtokfalcmkmelpaaPAllx4
import Derived.Test.YtokfalcmkmelpaaPAllx5
import Derived.Test.YtokfalcmkmelpaaPAllx23
import Derived.Test.YtokfalcmkmelpaaPAllx24
import Derived.Test.YtokfalcmkmelpaaPAllx25
import Derived.Test.YtokfalcmkmelpaaPAllx26
namespace Go.Proofs.Ytokfalcmkmelpaa.PAll
open Go.RowKit Go.Proofs.YtokfalcmkmelpaaW.PrintWords Go.Proofs.YtokfalcmkmelpaaW.PrintLast Go.Proofs.YtokfalcmkmelpaaW.PrintMore
attribute [local go_sem] max2_int min2_int max_two min_two max_three min_three max_four min_four   -- for this text's walks alone
set_option linter.unusedVariables false
set_option linter.unusedSimpArgs false

/-! ### chaperonlaw10_ChainFirst: function 7 -/
def chaperonlaw10_ChainFirst.j0 : Nat → Bool → List (S37) → List (S37) → Bool → Option (Bool)
  | 0, _, _, _, _ => none
  | k + 1, x7, x8, x9, x53 => if x53 = true then (none) else (if x7 = true then ((chaperonlaw10_turned.f k x8).bind fun t493 => ((chain_Norm.f t493).bind fun t496 => ((chaperonlaw10_turned.f k x9).bind fun t499 => ((chaperonkit_SameLayers.f k t496 t499).bind fun t502 => (some t502))))) else (none))
def chaperonlaw10_ChainFirst.f (k : Nat) (l0 : List Int) (a1 : Int) (a2 : Int) : Option (Bool) := (chaperonlaw10_ChainKnown.f k).bind fun t466 => (if (l0.length : Int) > 60 then (some t466) else ((chaperonlaw10_made.f k l0).bind fun t467 => ((chain_Norm.f t467).bind fun t470 => ((chaperonlaw10_made.f k (([a1, a2] : List Int))).bind fun t476 => (if 0 < (t476.length : Int) then (if 1 < (t476.length : Int) then ((chaperonlaw10_behind.f k t467 ((rd_T37 t476 0).f0) ((rd_T37 t476 0).f1) ((rd_T37 t476 0).f2) ((rd_T37 t476 1).f0) ((rd_T37 t476 1).f1) ((rd_T37 t476 1).f2)).bind fun t483 => ((chaperonlaw10_behind.f k t470 ((rd_T37 t476 0).f0) ((rd_T37 t476 0).f1) ((rd_T37 t476 0).f2) ((rd_T37 t476 1).f0) ((rd_T37 t476 1).f1) ((rd_T37 t476 1).f2)).bind fun t484 => (if t483 = t484 then ((chaperonlaw10_turned.f k t467).bind fun t485 => ((chaperonlaw10_behind.f k t485 ((rd_T37 t476 0).f0) ((rd_T37 t476 0).f1) ((rd_T37 t476 0).f2) ((rd_T37 t476 1).f0) ((rd_T37 t476 1).f1) ((rd_T37 t476 1).f2)).bind fun t488 => ((chaperonlaw10_turned.f k t470).bind fun t489 => ((chaperonlaw10_behind.f k t489 ((rd_T37 t476 0).f0) ((rd_T37 t476 0).f1) ((rd_T37 t476 0).f2) ((rd_T37 t476 1).f0) ((rd_T37 t476 1).f1) ((rd_T37 t476 1).f2)).bind fun t492 => (chaperonlaw10_ChainFirst.j0 k t466 t467 t470 (t488 != t492)))))) else (chaperonlaw10_ChainFirst.j0 k t466 t467 t470 true)))) else (none)) else (none))))))
theorem chaperonlaw10_ChainFirst.mono_l : ∀ k, (∀ y0 y1 y2 y3, LeO (chaperonlaw10_ChainFirst.j0 k y0 y1 y2 y3) (chaperonlaw10_ChainFirst.j0 (k + 1) y0 y1 y2 y3))
  | 0 => fun _ _ _ _ r h => by simp [chaperonlaw10_ChainFirst.j0] at h
  | k + 1 => by
    have ih0 := chaperonlaw10_ChainFirst.mono_l k
    · intro y0 y1 y2 y3
      unfold chaperonlaw10_ChainFirst.j0
      repeat' first
      | (with_reducible exact ih0 _ _ _ _)
      | (with_reducible exact chaperonkit_SameLayers.mono _ _ _)
      | (with_reducible exact chaperonlaw10_ChainKnown.mono _)
      | (with_reducible exact chaperonlaw10_behind.mono _ _ _ _ _ _ _ _)
      | (with_reducible exact chaperonlaw10_made.mono _ _)
      | (with_reducible exact chaperonlaw10_turned.mono _ _)
      | (with_reducible exact LeO.refl _)
      | (with_reducible exact LeO.none _)
      | (with_reducible refine LeO.ite ?_ ?_)
      | (with_reducible refine LeO.bind ?_ (fun _ => ?_))
      | exact ih0 _ _ _ _
      | exact chaperonkit_SameLayers.mono _ _ _
      | exact chaperonlaw10_ChainKnown.mono _
      | exact chaperonlaw10_behind.mono _ _ _ _ _ _ _ _
      | exact chaperonlaw10_made.mono _ _
      | exact chaperonlaw10_turned.mono _ _
      | exact LeO.none _
      | refine LeO.ite ?_ ?_
      | refine LeO.bind ?_ (fun _ => ?_)
theorem chaperonlaw10_ChainFirst.mono : ∀ a0 a1 a2 k, LeO (chaperonlaw10_ChainFirst.f k a0 a1 a2) (chaperonlaw10_ChainFirst.f (k + 1) a0 a1 a2) := by
  intro a0 a1 a2 k
  have ih0 := chaperonlaw10_ChainFirst.mono_l k
  unfold chaperonlaw10_ChainFirst.f
  repeat' first
      | (with_reducible exact ih0 _ _ _ _)
      | (with_reducible exact chaperonkit_SameLayers.mono _ _ _)
      | (with_reducible exact chaperonlaw10_ChainKnown.mono _)
      | (with_reducible exact chaperonlaw10_behind.mono _ _ _ _ _ _ _ _)
      | (with_reducible exact chaperonlaw10_made.mono _ _)
      | (with_reducible exact chaperonlaw10_turned.mono _ _)
      | (with_reducible exact LeO.refl _)
      | (with_reducible exact LeO.none _)
      | (with_reducible refine LeO.ite ?_ ?_)
      | (with_reducible refine LeO.bind ?_ (fun _ => ?_))
      | exact ih0 _ _ _ _
      | exact chaperonkit_SameLayers.mono _ _ _
      | exact chaperonlaw10_ChainKnown.mono _
      | exact chaperonlaw10_behind.mono _ _ _ _ _ _ _ _
      | exact chaperonlaw10_made.mono _ _
      | exact chaperonlaw10_turned.mono _ _
      | exact LeO.none _
      | refine LeO.ite ?_ ?_
      | refine LeO.bind ?_ (fun _ => ?_)
def chaperonlaw10_ChainFirst.T7 : Bool × List (List Nat × List Nat) := (true, [([], []), ([0], [0]), ([1], [1]), ([], []), ([3], [3]), ([4], [4]), ([], []), ([], []), ([6, 2, 0, 1, 2, 6, 7], [2, 6]), ([7, 5, 8, 0, 1, 2, 3, 4, 5, 6, 7, 8], [5, 7])])
def chaperonlaw10_ChainFirst.B7 : List Nat := [0, 1, 3, 0, 8, 24, 0, 0, 199, 511]
theorem chaperonlaw10_ChainFirst.tab7 : rtab .any (opsOf Try.f7 7) = chaperonlaw10_ChainFirst.T7 := by kernel_rfl
theorem chaperonlaw10_ChainFirst.bits7 : waitsOk chaperonlaw10_ChainFirst.T7.2 chaperonlaw10_ChainFirst.B7 = true := by kernel_rfl
def chaperonlaw10_ChainFirst.T8 : Bool × List (List Nat × List Nat) := (true, [([], []), ([], []), ([], []), ([0, 1, 2], [0, 1, 2]), ([], []), ([], []), ([], []), ([4, 5, 6, 3], [4, 5, 6]), ([3, 7], [3, 7]), ([8, 7], [8]), ([9], [9]), ([10, 9, 9], [9, 10]), ([9], [9]), ([9], [9]), ([11, 12, 13, 11, 9], [9, 11, 12, 13]), ([9], [9]), ([15, 14, 9], [9, 15]), ([9], [9]), ([9], [9]), ([16, 17, 18, 16, 9], [9, 16, 17, 18]), ([14, 19, 9], [9, 14, 19]), ([9, 20], [9, 20])])
def chaperonlaw10_ChainFirst.B8 : List Nat := [0, 0, 0, 7, 0, 0, 0, 127, 255, 511, 1023, 2047, 1023, 1023, 16383, 1023, 65535, 1023, 1023, 524287, 1048575, 2097151]
theorem chaperonlaw10_ChainFirst.tab8 : rtab .any (opsOf Try.f7 8) = chaperonlaw10_ChainFirst.T8 := by kernel_rfl
theorem chaperonlaw10_ChainFirst.bits8 : waitsOk chaperonlaw10_ChainFirst.T8.2 chaperonlaw10_ChainFirst.B8 = true := by kernel_rfl
set_option maxHeartbeats 8000000 in
set_option maxRecDepth 100000 in
theorem chaperonlaw10_ChainFirst.calls (k : Nat) (A0 : Option Addr) (c0 : Nat) (l0 : List Int) (a1 : Int) (a2 : Int) (r : Bool) (w : World) (hr0 : Kd.C (Kd.int .i64) w A0 l0.length l0) (hc0 : l0.length ≤ c0) (h : chaperonlaw10_ChainFirst.f k l0 a1 a2 = some r) :
    Calls Try.prog 7 #[.slice A0 l0.length c0, .int .i64 a1, .int .i64 a2] w fun e w' => e = .returned (.bool r) ∧ Below w.heap.size w w' := by
  have hu37 := Try.underlying37
  have HR0 := Aside0.mk hr0
  have HC0 := Aside0.mk hc0
  clear hr0 hc0
  have HB := Aside0.mk (Below.refl w.heap.size w)
  have H : ((chaperonlaw10_ChainKnown.f k).bind fun t466 => (if (l0.length : Int) > 60 then (some t466) else ((chaperonlaw10_made.f k l0).bind fun t467 => ((chain_Norm.f t467).bind fun t470 => ((chaperonlaw10_made.f k (([a1, a2] : List Int))).bind fun t476 => (if 0 < (t476.length : Int) then (if 1 < (t476.length : Int) then ((chaperonlaw10_behind.f k t467 ((rd_T37 t476 0).f0) ((rd_T37 t476 0).f1) ((rd_T37 t476 0).f2) ((rd_T37 t476 1).f0) ((rd_T37 t476 1).f1) ((rd_T37 t476 1).f2)).bind fun t483 => ((chaperonlaw10_behind.f k t470 ((rd_T37 t476 0).f0) ((rd_T37 t476 0).f1) ((rd_T37 t476 0).f2) ((rd_T37 t476 1).f0) ((rd_T37 t476 1).f1) ((rd_T37 t476 1).f2)).bind fun t484 => (if t483 = t484 then ((chaperonlaw10_turned.f k t467).bind fun t485 => ((chaperonlaw10_behind.f k t485 ((rd_T37 t476 0).f0) ((rd_T37 t476 0).f1) ((rd_T37 t476 0).f2) ((rd_T37 t476 1).f0) ((rd_T37 t476 1).f1) ((rd_T37 t476 1).f2)).bind fun t488 => ((chaperonlaw10_turned.f k t470).bind fun t489 => ((chaperonlaw10_behind.f k t489 ((rd_T37 t476 0).f0) ((rd_T37 t476 0).f1) ((rd_T37 t476 0).f2) ((rd_T37 t476 1).f0) ((rd_T37 t476 1).f1) ((rd_T37 t476 1).f2)).bind fun t492 => (chaperonlaw10_ChainFirst.j0 k t466 t467 t470 (t488 != t492)))))) else (chaperonlaw10_ChainFirst.j0 k t466 t467 t470 true)))) else (none)) else (none))))))) = some r := h
  clear h
  replace H := Option.bind_eq_some_iff.mp H
  obtain ⟨t466, A40, H⟩ := H
  replace H : (if (l0.length : Int) > 60 then (some t466) else ((chaperonlaw10_made.f k l0).bind fun t467 => ((chain_Norm.f t467).bind fun t470 => ((chaperonlaw10_made.f k (([a1, a2] : List Int))).bind fun t476 => (if 0 < (t476.length : Int) then (if 1 < (t476.length : Int) then ((chaperonlaw10_behind.f k t467 ((rd_T37 t476 0).f0) ((rd_T37 t476 0).f1) ((rd_T37 t476 0).f2) ((rd_T37 t476 1).f0) ((rd_T37 t476 1).f1) ((rd_T37 t476 1).f2)).bind fun t483 => ((chaperonlaw10_behind.f k t470 ((rd_T37 t476 0).f0) ((rd_T37 t476 0).f1) ((rd_T37 t476 0).f2) ((rd_T37 t476 1).f0) ((rd_T37 t476 1).f1) ((rd_T37 t476 1).f2)).bind fun t484 => (if t483 = t484 then ((chaperonlaw10_turned.f k t467).bind fun t485 => ((chaperonlaw10_behind.f k t485 ((rd_T37 t476 0).f0) ((rd_T37 t476 0).f1) ((rd_T37 t476 0).f2) ((rd_T37 t476 1).f0) ((rd_T37 t476 1).f1) ((rd_T37 t476 1).f2)).bind fun t488 => ((chaperonlaw10_turned.f k t470).bind fun t489 => ((chaperonlaw10_behind.f k t489 ((rd_T37 t476 0).f0) ((rd_T37 t476 0).f1) ((rd_T37 t476 0).f2) ((rd_T37 t476 1).f0) ((rd_T37 t476 1).f1) ((rd_T37 t476 1).f2)).bind fun t492 => (chaperonlaw10_ChainFirst.j0 k t466 t467 t470 (t488 != t492)))))) else (chaperonlaw10_ChainFirst.j0 k t466 t467 t470 true)))) else (none)) else (none)))))) = some r := H
  have A4 := Aside0.mk A40
  clear A40
  by_cases c5 : (l0.length : Int) > 60
  · rw [if_pos c5] at H
    have c5b0 : decide (60 < (l0.length : Int)) = true := decide_eq_true c5
    have c5b1 : decide (60 < l0.length) = true := decide_eq_true (by omega)
    clear c5
    obtain rfl := Option.some.inj H
    go_enter Try.func7, Try.ntmps7
    go_wp2_with (first | ((with_reducible refine gate_callee (f := 5) rfl ?_); refine goesL_ (some 13) rfl rfl Try.func5 (by kernel_rfl) rfl #[] rfl (by (try simp only [List.map_toArray, List.map_cons, List.map_nil]); first | done | rfl | (simp only [List.length_drop, List.length_take]; rfl)) ?_; (with_reducible refine (chaperonlaw10_ChainKnown.calls k  t466 _ A4.out).mono ?_); rintro e w6 ⟨rfl, hb⟩; refine ⟨_, rfl, ?_⟩; have n0_ := Aside0.mk (below_step (by repeat (first | (with_reducible first | exact HB.out | apply below_alloc | apply pw_below_drewN | apply below_drew1) | exact HB.out)) hb); clear HB; have HB := n0_; clear n0_; (try clear hb); (try clear hb2); (try clear hk); (try clear hi)))
    go_ret
    exact ⟨by first | rfl | (simp [errW_none, errW_some] <;> rfl) | (simp [*, errW_none, errW_some] <;> rfl), by repeat (first | (with_reducible first | exact HB.out | apply below_alloc | apply pw_below_drewN | apply below_drew1) | exact HB.out)⟩
  · rw [if_neg c5] at H
    have c5b0 : decide (60 < (l0.length : Int)) = false := decide_eq_false c5
    have c5b1 : decide (60 < l0.length) = false := decide_eq_false (by omega)
    clear c5
    replace H := Option.bind_eq_some_iff.mp H
    obtain ⟨t467, A70, H⟩ := H
    replace H : ((chain_Norm.f t467).bind fun t470 => ((chaperonlaw10_made.f k (([a1, a2] : List Int))).bind fun t476 => (if 0 < (t476.length : Int) then (if 1 < (t476.length : Int) then ((chaperonlaw10_behind.f k t467 ((rd_T37 t476 0).f0) ((rd_T37 t476 0).f1) ((rd_T37 t476 0).f2) ((rd_T37 t476 1).f0) ((rd_T37 t476 1).f1) ((rd_T37 t476 1).f2)).bind fun t483 => ((chaperonlaw10_behind.f k t470 ((rd_T37 t476 0).f0) ((rd_T37 t476 0).f1) ((rd_T37 t476 0).f2) ((rd_T37 t476 1).f0) ((rd_T37 t476 1).f1) ((rd_T37 t476 1).f2)).bind fun t484 => (if t483 = t484 then ((chaperonlaw10_turned.f k t467).bind fun t485 => ((chaperonlaw10_behind.f k t485 ((rd_T37 t476 0).f0) ((rd_T37 t476 0).f1) ((rd_T37 t476 0).f2) ((rd_T37 t476 1).f0) ((rd_T37 t476 1).f1) ((rd_T37 t476 1).f2)).bind fun t488 => ((chaperonlaw10_turned.f k t470).bind fun t489 => ((chaperonlaw10_behind.f k t489 ((rd_T37 t476 0).f0) ((rd_T37 t476 0).f1) ((rd_T37 t476 0).f2) ((rd_T37 t476 1).f0) ((rd_T37 t476 1).f1) ((rd_T37 t476 1).f2)).bind fun t492 => (chaperonlaw10_ChainFirst.j0 k t466 t467 t470 (t488 != t492)))))) else (chaperonlaw10_ChainFirst.j0 k t466 t467 t470 true)))) else (none)) else (none)))) = some r := H
    have A7 := Aside0.mk A70
    clear A70
    replace H := Option.bind_eq_some_iff.mp H
    obtain ⟨t470, A80, H⟩ := H
    replace H : ((chaperonlaw10_made.f k (([a1, a2] : List Int))).bind fun t476 => (if 0 < (t476.length : Int) then (if 1 < (t476.length : Int) then ((chaperonlaw10_behind.f k t467 ((rd_T37 t476 0).f0) ((rd_T37 t476 0).f1) ((rd_T37 t476 0).f2) ((rd_T37 t476 1).f0) ((rd_T37 t476 1).f1) ((rd_T37 t476 1).f2)).bind fun t483 => ((chaperonlaw10_behind.f k t470 ((rd_T37 t476 0).f0) ((rd_T37 t476 0).f1) ((rd_T37 t476 0).f2) ((rd_T37 t476 1).f0) ((rd_T37 t476 1).f1) ((rd_T37 t476 1).f2)).bind fun t484 => (if t483 = t484 then ((chaperonlaw10_turned.f k t467).bind fun t485 => ((chaperonlaw10_behind.f k t485 ((rd_T37 t476 0).f0) ((rd_T37 t476 0).f1) ((rd_T37 t476 0).f2) ((rd_T37 t476 1).f0) ((rd_T37 t476 1).f1) ((rd_T37 t476 1).f2)).bind fun t488 => ((chaperonlaw10_turned.f k t470).bind fun t489 => ((chaperonlaw10_behind.f k t489 ((rd_T37 t476 0).f0) ((rd_T37 t476 0).f1) ((rd_T37 t476 0).f2) ((rd_T37 t476 1).f0) ((rd_T37 t476 1).f1) ((rd_T37 t476 1).f2)).bind fun t492 => (chaperonlaw10_ChainFirst.j0 k t466 t467 t470 (t488 != t492)))))) else (chaperonlaw10_ChainFirst.j0 k t466 t467 t470 true)))) else (none)) else (none))) = some r := H
    have A8 := Aside0.mk A80
    clear A80
    obtain ⟨y473, hy473⟩ : ∃ y_ : List Int, y_ = (([a1, a2] : List Int)) := ⟨_, rfl⟩
    replace H : ((chaperonlaw10_made.f k y473).bind fun t476 => (if 0 < (t476.length : Int) then (if 1 < (t476.length : Int) then ((chaperonlaw10_behind.f k t467 ((rd_T37 t476 0).f0) ((rd_T37 t476 0).f1) ((rd_T37 t476 0).f2) ((rd_T37 t476 1).f0) ((rd_T37 t476 1).f1) ((rd_T37 t476 1).f2)).bind fun t483 => ((chaperonlaw10_behind.f k t470 ((rd_T37 t476 0).f0) ((rd_T37 t476 0).f1) ((rd_T37 t476 0).f2) ((rd_T37 t476 1).f0) ((rd_T37 t476 1).f1) ((rd_T37 t476 1).f2)).bind fun t484 => (if t483 = t484 then ((chaperonlaw10_turned.f k t467).bind fun t485 => ((chaperonlaw10_behind.f k t485 ((rd_T37 t476 0).f0) ((rd_T37 t476 0).f1) ((rd_T37 t476 0).f2) ((rd_T37 t476 1).f0) ((rd_T37 t476 1).f1) ((rd_T37 t476 1).f2)).bind fun t488 => ((chaperonlaw10_turned.f k t470).bind fun t489 => ((chaperonlaw10_behind.f k t489 ((rd_T37 t476 0).f0) ((rd_T37 t476 0).f1) ((rd_T37 t476 0).f2) ((rd_T37 t476 1).f0) ((rd_T37 t476 1).f1) ((rd_T37 t476 1).f2)).bind fun t492 => (chaperonlaw10_ChainFirst.j0 k t466 t467 t470 (t488 != t492)))))) else (chaperonlaw10_ChainFirst.j0 k t466 t467 t470 true)))) else (none)) else (none))) = some r := by first | (rw [hy473]; with_reducible exact H) | (have H2_ := (Option.bind_some _ _).symm.trans H; rw [hy473]; with_reducible exact H2_) | (have H2_ := (Option.bind_some _ _).symm.trans H; with_reducible exact H2_) | with_reducible exact H | (rw [hy473]; exact H) | exact H
    have Ny473 := Aside0.mk hy473
    clear hy473
    replace H := Option.bind_eq_some_iff.mp H
    obtain ⟨t476, A90, H⟩ := H
    replace H : (if 0 < (t476.length : Int) then (if 1 < (t476.length : Int) then ((chaperonlaw10_behind.f k t467 ((rd_T37 t476 0).f0) ((rd_T37 t476 0).f1) ((rd_T37 t476 0).f2) ((rd_T37 t476 1).f0) ((rd_T37 t476 1).f1) ((rd_T37 t476 1).f2)).bind fun t483 => ((chaperonlaw10_behind.f k t470 ((rd_T37 t476 0).f0) ((rd_T37 t476 0).f1) ((rd_T37 t476 0).f2) ((rd_T37 t476 1).f0) ((rd_T37 t476 1).f1) ((rd_T37 t476 1).f2)).bind fun t484 => (if t483 = t484 then ((chaperonlaw10_turned.f k t467).bind fun t485 => ((chaperonlaw10_behind.f k t485 ((rd_T37 t476 0).f0) ((rd_T37 t476 0).f1) ((rd_T37 t476 0).f2) ((rd_T37 t476 1).f0) ((rd_T37 t476 1).f1) ((rd_T37 t476 1).f2)).bind fun t488 => ((chaperonlaw10_turned.f k t470).bind fun t489 => ((chaperonlaw10_behind.f k t489 ((rd_T37 t476 0).f0) ((rd_T37 t476 0).f1) ((rd_T37 t476 0).f2) ((rd_T37 t476 1).f0) ((rd_T37 t476 1).f1) ((rd_T37 t476 1).f2)).bind fun t492 => (chaperonlaw10_ChainFirst.j0 k t466 t467 t470 (t488 != t492)))))) else (chaperonlaw10_ChainFirst.j0 k t466 t467 t470 true)))) else (none)) else (none)) = some r := H
    have A9 := Aside0.mk A90
    clear A90
    by_cases c10 : 0 < (t476.length : Int)
    · rw [if_pos c10] at H
      have c10b0 : decide (0 < (t476.length : Int)) = true := decide_eq_true c10
      have c10b1 : decide (0 < t476.length) = true := decide_eq_true (by omega)
      clear c10
      by_cases c11 : 1 < (t476.length : Int)
      · rw [if_pos c11] at H
        have c11b0 : decide (1 < (t476.length : Int)) = true := decide_eq_true c11
        have c11b1 : decide (1 < t476.length) = true := decide_eq_true (by omega)
        clear c11
        have HC12 := Aside0.mk H
        clear H
        go_enter Try.func7, Try.ntmps7
        try go_wp2_with (first | ((with_reducible refine gate_callee (f := 5) rfl ?_); refine goesL_ (some 13) rfl rfl Try.func5 (by kernel_rfl) rfl #[] rfl (by (try simp only [List.map_toArray, List.map_cons, List.map_nil]); first | done | rfl | (simp only [List.length_drop, List.length_take]; rfl)) ?_; (with_reducible refine (chaperonlaw10_ChainKnown.calls k  t466 _ A4.out).mono ?_); rintro e w13 ⟨rfl, hb⟩; refine ⟨_, rfl, ?_⟩; have n0_ := Aside0.mk (below_step (by repeat (first | (with_reducible first | exact HB.out | apply below_alloc | apply pw_below_drewN | apply below_drew1) | exact HB.out)) hb); clear HB; have HB := n0_; clear n0_; (try clear hb); (try clear hb2); (try clear hk); (try clear hi)) | ((with_reducible refine gate_callee (f := 32) rfl ?_); refine goesL_ (some 19) rfl rfl Try.func32 (by kernel_rfl) rfl #[.slice A0 l0.length c0] rfl (by (try simp only [List.map_toArray, List.map_cons, List.map_nil]); first | done | rfl | (simp only [List.length_drop, List.length_take]; rfl)) ?_; (with_reducible refine (chaperonlaw10_made.calls k _ _ l0 t467 _ ?side1 ?side2 A7.out).mono ?_); (case side1 => repeat (first | exact (Kd.C_below HR0.out HB.out) | (with_reducible refine Kd.C_alloc ?_ _) | (with_reducible refine Kd.C_drewN ?_ _) | (with_reducible refine Kd.C_drew ?_))); (case side2 => exact HC0.out); rintro e w14 ⟨v468, rfl, ho0, hb⟩; refine ⟨_, rfl, ?_⟩; have n0_ := Aside0.mk (Kd.R_lower ho0 (below_size (by repeat (first | (with_reducible first | exact HB.out | apply below_alloc | apply pw_below_drewN | apply below_drew1) | exact HB.out)))); have n1_ := Aside0.mk (below_step (by repeat (first | (with_reducible first | exact HB.out | apply below_alloc | apply pw_below_drewN | apply below_drew1) | exact HB.out)) hb); clear HB; have HO469 := n0_; have HB := n1_; clear n0_ n1_; (try clear hb); (try clear hb2); (try clear hk); (try clear hi); (try clear ho0); obtain ⟨Ao15, co15, eo15⟩ := Kd.R_slice HO469.out; subst eo15) | ((with_reducible refine gate_callee (f := 21) rfl ?_); refine goesL_ (some 21) rfl rfl Try.func21 (by kernel_rfl) rfl #[.slice Ao15 t467.length co15] rfl (by (try simp only [List.map_toArray, List.map_cons, List.map_nil]); first | done | rfl | (simp only [List.length_drop, List.length_take]; rfl)) ?_; (with_reducible refine (chain_Norm.calls _ _ t467 t470 _ ?side1 ?side2 A8.out).mono ?_); (case side1 => repeat (first | exact (Kd.R_reads' HO469.out).2.2 | (with_reducible refine Kd.C_alloc ?_ _) | (with_reducible refine Kd.C_drewN ?_ _) | (with_reducible refine Kd.C_drew ?_))); (case side2 => exact (Kd.R_reads' HO469.out).2.1); rintro e w16 ⟨v471, rfl, ho0, hb⟩; refine ⟨_, rfl, ?_⟩; have n0_ := Aside0.mk (Kd.R_elder' (by (with_reducible repeat (first | apply Kd.R_alloc | apply Kd.R_drewN | apply Kd.R_drew)); exact HO469.out) (Kd.R_base ho0) hb); have n1_ := Aside0.mk (Kd.R_lower (Kd.R_new' ho0 (Kd.R_lt (by (with_reducible repeat (first | apply Kd.R_alloc | apply Kd.R_drewN | apply Kd.R_drew)); exact HO469.out))) (below_size (by repeat (first | (with_reducible first | exact HB.out | apply below_alloc | apply pw_below_drewN | apply below_drew1) | exact HB.out)))); have n2_ := Aside0.mk (below_step (by repeat (first | (with_reducible first | exact HB.out | apply below_alloc | apply pw_below_drewN | apply below_drew1) | exact HB.out)) hb); clear HO469; clear HB; have HO469 := n0_; have HO472 := n1_; have HB := n2_; clear n0_ n1_ n2_; (try clear hb); (try clear hb2); (try clear hk); (try clear hi); (try clear ho0)) | ((with_reducible refine gate_dst (N := 24) rfl ?_); refine Kd.R_lit (Kd.int .i64) _ 3 ?hg (N := 24) ?hd (xs := ([a1, a2] : List Int)) (inner := [.int .i64 a1, .int .i64 a2]) (ok := fun _ => True) (okp := fun _ => True) ?hr ?hp (fun _ hk => hk) trivial (Below.refl _ _) (Nat.le_refl _) (by simp) ?_; (case hd => rfl); (case hg => rfl); (case hr => first | (go_simp; done) | (go_simp; rfl)); (case hp => exact (Reps.one (show Kd.M (Kd.int .i64) _ _ _ a1 [.int .i64 a1] from rfl) (Reps.one (show Kd.M (Kd.int .i64) _ _ _ a2 [.int .i64 a2] from rfl) (Reps.none _ _)))); intro v474 w17 ho18 hb hg_ hnew_; clear hg_ hnew_; (first | rw [← Ny473.out] at ho18 | (simp only [Int.reduceToNat] at ho18; rw [← Ny473.out] at ho18)); have n0_ := Aside0.mk (Kd.R_below (by (with_reducible repeat (first | apply Kd.R_alloc | apply Kd.R_drewN | apply Kd.R_drew)); exact HO469.out) hb); have n1_ := Aside0.mk (Kd.R_below (by (with_reducible repeat (first | apply Kd.R_alloc | apply Kd.R_drewN | apply Kd.R_drew)); exact HO472.out) hb); have n2_ := Aside0.mk (Kd.R_lower ho18 (below_size (by repeat (first | (with_reducible first | exact HB.out | apply below_alloc | apply pw_below_drewN | apply below_drew1) | exact HB.out)))); have n3_ := Aside0.mk (below_step (by repeat (first | (with_reducible first | exact HB.out | apply below_alloc | apply pw_below_drewN | apply below_drew1) | exact HB.out)) hb); clear HO469; clear HO472; clear HB; have HO469 := n0_; have HO472 := n1_; have HO475 := n2_; have HB := n3_; clear n0_ n1_ n2_ n3_; clear hb ho18; obtain ⟨Ao19, co19, eo19⟩ := Kd.R_slice HO475.out; subst eo19) | ((with_reducible refine gate_callee (f := 32) rfl ?_); refine goesL_ (some 25) rfl rfl Try.func32 (by kernel_rfl) rfl #[.slice Ao19 y473.length co19] rfl (by (try simp only [List.map_toArray, List.map_cons, List.map_nil]); first | done | rfl | (simp only [List.length_drop, List.length_take]; rfl)) ?_; (with_reducible refine (chaperonlaw10_made.calls k _ _ y473 t476 _ ?side1 ?side2 A9.out).mono ?_); (case side1 => repeat (first | exact (Kd.R_reads' HO475.out).2.2 | (with_reducible refine Kd.C_alloc ?_ _) | (with_reducible refine Kd.C_drewN ?_ _) | (with_reducible refine Kd.C_drew ?_))); (case side2 => exact (Kd.R_reads' HO475.out).2.1); rintro e w20 ⟨v477, rfl, ho0, hb⟩; refine ⟨_, rfl, ?_⟩; have n0_ := Aside0.mk (Kd.R_elder' (by (with_reducible repeat (first | apply Kd.R_alloc | apply Kd.R_drewN | apply Kd.R_drew)); exact HO469.out) (Kd.R_base ho0) hb); have n1_ := Aside0.mk (Kd.R_elder' (by (with_reducible repeat (first | apply Kd.R_alloc | apply Kd.R_drewN | apply Kd.R_drew)); exact HO472.out) (Kd.R_base ho0) hb); have n2_ := Aside0.mk (Kd.R_below (by (with_reducible repeat (first | apply Kd.R_alloc | apply Kd.R_drewN | apply Kd.R_drew)); exact HO475.out) hb); have n3_ := Aside0.mk (Kd.R_lower (Kd.R_new' (Kd.R_new' ho0 (Kd.R_lt (by (with_reducible repeat (first | apply Kd.R_alloc | apply Kd.R_drewN | apply Kd.R_drew)); exact HO469.out))) (Kd.R_lt (by (with_reducible repeat (first | apply Kd.R_alloc | apply Kd.R_drewN | apply Kd.R_drew)); exact HO472.out))) (below_size (by repeat (first | (with_reducible first | exact HB.out | apply below_alloc | apply pw_below_drewN | apply below_drew1) | exact HB.out)))); have n4_ := Aside0.mk (below_step (by repeat (first | (with_reducible first | exact HB.out | apply below_alloc | apply pw_below_drewN | apply below_drew1) | exact HB.out)) hb); clear HO469; clear HO472; clear HO475; clear HB; have HO469 := n0_; have HO472 := n1_; have HO475 := n2_; have HO478 := n3_; have HB := n4_; clear n0_ n1_ n2_ n3_ n4_; (try clear hb); (try clear hb2); (try clear hk); (try clear hi); (try clear ho0)))
        have n0_ := Aside0.mk (Kd.R_drew HO469.out)
        have n1_ := Aside0.mk (Kd.R_drew HO472.out)
        have n2_ := Aside0.mk (Kd.R_drew HO475.out)
        have n3_ := Aside0.mk (Kd.R_drew HO478.out)
        have n4_ := Aside0.mk (below_drew1 HB.out)
        clear HO469
        clear HO472
        clear HO475
        clear HO478
        clear HB
        have HO469 := n0_
        have HO472 := n1_
        have HO475 := n2_
        have HO478 := n3_
        have HB := n4_
        clear n0_ n1_ n2_ n3_ n4_
        obtain ⟨Ao22, co22, eo22⟩ := Kd.R_slice HO478.out
        (first | subst eo22 | (injection eo22 with f1_ f2_ f3_; have f4_ := f1_.symm; have f5_ := f3_.symm; clear f1_ f2_ f3_; subst f4_; subst f5_))
        have p479 : 0 ≤ (0 : Int) := (by omega)
        have q479 : 0 < (t476.length : Int) := of_decide_eq_true (by first | (with_reducible assumption) | assumption)
        obtain ⟨ad479, e479, hx479_0, hx479_1, hx479_2⟩ := at_T37 (Kd.R_reads' HO478.out).2.2 0 p479 q479
        cases e479
        have qi479 : (0 < t476.length) = True := eq_true (by omega)
        (try rw [show ((0 : Int)).toNat = 0 from rfl] at hx479_0)
        (try rw [show 0 * 3 = 0 from rfl] at hx479_0)
        (try rw [Addr.add_zero'] at hx479_0)
        (try rw [show ((0 : Int)).toNat = 0 from rfl] at hx479_1)
        (try rw [show 0 * 3 = 0 from rfl] at hx479_1)
        (try rw [Addr.add_zero'] at hx479_1)
        (try rw [show ((0 : Int)).toNat = 0 from rfl] at hx479_2)
        (try rw [show 0 * 3 = 0 from rfl] at hx479_2)
        (try rw [Addr.add_zero'] at hx479_2)
        replace p479 := eq_true p479
        replace q479 := eq_true q479
        have p480 : 0 ≤ (1 : Int) := (by omega)
        have q480 : 1 < (t476.length : Int) := of_decide_eq_true (by first | (with_reducible assumption) | assumption)
        obtain ⟨ad480, e480, hx480_0, hx480_1, hx480_2⟩ := at_T37 (Kd.R_reads' HO478.out).2.2 1 p480 q480
        obtain rfl : ad479 = ad480 := (by injection e480)
        (try simp only [show (1 : Int).toNat = 1 from rfl, Nat.reduceMul, Nat.reduceEqDiff, Go.Addr.add, ↓reduceIte] at hx480_0)
        (try simp only [show (1 : Int).toNat = 1 from rfl, Nat.reduceMul, Nat.reduceEqDiff, Go.Addr.add, ↓reduceIte] at hx480_1)
        (try simp only [show (1 : Int).toNat = 1 from rfl, Nat.reduceMul, Nat.reduceEqDiff, Go.Addr.add, ↓reduceIte] at hx480_2)
        have qi480 : (1 < t476.length) = True := eq_true (by omega)
        (try rw [show ((1 : Int)).toNat = 1 from rfl] at hx480_0)
        (try rw [show 1 * 3 = 3 from rfl] at hx480_0)
        (try rw [show ((1 : Int)).toNat = 1 from rfl] at hx480_1)
        (try rw [show 1 * 3 = 3 from rfl] at hx480_1)
        (try rw [show ((1 : Int)).toNat = 1 from rfl] at hx480_2)
        (try rw [show 1 * 3 = 3 from rfl] at hx480_2)
        replace p480 := eq_true p480
        replace q480 := eq_true q480
        refine start_ (n := 10) (S := fun w' => w'.cell? ad479 = some (.bool ((rd_T37 t476 0).f0)) ∧ w'.cell? ⟨ad479.block, ad479.off + 1, none⟩ = some (.string ((rd_T37 t476 0).f1)) ∧ w'.cell? ⟨ad479.block, ad479.off + 2, none⟩ = some (.int .i64 ((rd_T37 t476 0).f2)) ∧ w'.cell? ⟨ad479.block, ad479.off + 3, none⟩ = some (.bool ((rd_T37 t476 1).f0)) ∧ w'.cell? ⟨ad479.block, ad479.off + 3 + 1, none⟩ = some (.string ((rd_T37 t476 1).f1)) ∧ w'.cell? ⟨ad479.block, ad479.off + 3 + 2, none⟩ = some (.int .i64 ((rd_T37 t476 1).f2))) (ds := []) #[false, false, false, false, false, false, false, false, false, false] (by kernel_rfl) rfl rfl ⟨hx479_0, hx479_1, hx479_2, hx480_0, hx480_1, hx480_2⟩ (fun hHeld => ?_); refine with_tabW chaperonlaw10_ChainFirst.tab7 chaperonlaw10_ChainFirst.bits7 (fun HT_ HW_ => ?_)
        generalize w20.drew = w21 at HO469 HO472 HO475 HO478 HB hx479_0 hx479_1 hx479_2 hx480_0 hx480_1 hx480_2 hHeld ⊢
        refine pure_ (i := 0) (N := some 26) (v := ?_) (a' := ?_) #[true, false, false, false, false, false, false, false, false, false] rfl rfl (any_of HT_.out (by kernel_rfl)) (fun _ _ _ h => h) (Or.inl ⟨by rfl, ?_⟩) ?_ ?_
        rotate_left
        · intro w'
          go_simp
          with_reducible rfl
        rotate_left
        · simp only [Act.put, List.setIfInBounds_toArray, List.set_cons_zero, List.set_cons_succ, i64_w, i32_w]
          rfl
        refine pure_ (i := 1) (N := some 27) (v := ?_) (a' := ?_) #[true, true, false, false, false, false, false, false, false, false] rfl rfl (any_of HT_.out (by kernel_rfl)) (fun _ _ _ h => h) (Or.inl ⟨by rfl, ?_⟩) ?_ ?_
        rotate_left
        · intro w'
          go_simp
          with_reducible rfl
        rotate_left
        · simp only [Act.put, List.setIfInBounds_toArray, List.set_cons_zero, List.set_cons_succ, i64_w, i32_w]
          rfl
        refine pure_ (i := 3) (N := some 29) (v := ?_) (a' := ?_) #[true, true, false, true, false, false, false, false, false, false] rfl rfl (any_of HT_.out (by kernel_rfl)) (fun _ _ _ h => h) (Or.inl ⟨by rfl, ?_⟩) ?_ ?_
        rotate_left
        · intro w'
          go_simp
          with_reducible rfl
        rotate_left
        · simp only [Act.put, List.setIfInBounds_toArray, List.set_cons_zero, List.set_cons_succ, i64_w, i32_w]
          rfl
        refine pure_ (i := 4) (N := some 30) (v := ?_) (a' := ?_) #[true, true, false, true, true, false, false, false, false, false] rfl rfl (any_of HT_.out (by kernel_rfl)) (fun _ _ _ h => h) (Or.inl ⟨by rfl, ?_⟩) ?_ ?_
        rotate_left
        · intro w'
          go_simp
          with_reducible rfl
        rotate_left
        · simp only [Act.put, List.setIfInBounds_toArray, List.set_cons_zero, List.set_cons_succ, i64_w, i32_w]
          rfl
        refine take_ (i := 2) (N := some 28) (v := ?_) (a' := ?_) #[true, true, true, true, true, false, false, false, false, false] rfl rfl (take_ofW HT_.out HW_.out (by kernel_rfl)) (fun _ _ _ h => h) (Or.inl ⟨by rfl, ?_⟩) hHeld ?_ ?_
        rotate_left
        · rintro w' ⟨s0, s1, s2, s3, s4, s5⟩
          go_simp
          with_reducible rfl
        rotate_left
        · simp only [Act.put, List.setIfInBounds_toArray, List.set_cons_zero, List.set_cons_succ, i64_w, i32_w]
          rfl
        refine take_ (i := 5) (N := some 31) (v := ?_) (a' := ?_) #[true, true, true, true, true, true, false, false, false, false] rfl rfl (take_ofW HT_.out HW_.out (by kernel_rfl)) (fun _ _ _ h => h) (Or.inl ⟨by rfl, ?_⟩) hHeld ?_ ?_
        rotate_left
        · rintro w' ⟨s0, s1, s2, s3, s4, s5⟩
          go_simp
          with_reducible rfl
        rotate_left
        · simp only [Act.put, List.setIfInBounds_toArray, List.set_cons_zero, List.set_cons_succ, i64_w, i32_w]
          rfl
        refine join_ (σ := Nat × Nat) 2 #[true, true, true, true, true, true, true, true, false, false] (fun s_ => [(11, .pointer (some ⟨s_.1, 0, none⟩)), (12, .pointer (some ⟨s_.2, 0, none⟩))]) (fun s_ w' => (w'.cell? ad479 = some (.bool ((rd_T37 t476 0).f0)) ∧ w'.cell? ⟨ad479.block, ad479.off + 1, none⟩ = some (.string ((rd_T37 t476 0).f1)) ∧ w'.cell? ⟨ad479.block, ad479.off + 2, none⟩ = some (.int .i64 ((rd_T37 t476 0).f2)) ∧ w'.cell? ⟨ad479.block, ad479.off + 3, none⟩ = some (.bool ((rd_T37 t476 1).f0)) ∧ w'.cell? ⟨ad479.block, ad479.off + 3 + 1, none⟩ = some (.string ((rd_T37 t476 1).f1)) ∧ w'.cell? ⟨ad479.block, ad479.off + 3 + 2, none⟩ = some (.int .i64 ((rd_T37 t476 1).f2))) ∧ (Kd.R k37 37 w' w.heap.size (fun k_ => some k_ ≠ (v471 : Value).ownBlock ∧ some k_ ≠ (.slice (some ad479) t476.length co22 : Value).ownBlock ∧ k_ ≠ s_.1 ∧ k_ ≠ s_.2) (.slice Ao15 t467.length co15) t467) ∧ (Kd.R k37 37 w' w.heap.size (fun k_ => some k_ ≠ (.slice Ao15 t467.length co15 : Value).ownBlock ∧ some k_ ≠ (.slice (some ad479) t476.length co22 : Value).ownBlock ∧ k_ ≠ s_.1 ∧ k_ ≠ s_.2) v471 t470) ∧ (Kd.R (Kd.int .i64) 3 w' w.heap.size (fun _ => True) (.slice Ao19 y473.length co19) y473) ∧ (Kd.R k37 37 w' w.heap.size (fun k_ => some k_ ≠ (.slice Ao15 t467.length co15 : Value).ownBlock ∧ some k_ ≠ (v471 : Value).ownBlock ∧ k_ ≠ s_.1 ∧ k_ ≠ s_.2) (.slice (some ad479) t476.length co22) t476) ∧ (w'.heap[s_.1]? = some (.cells #[.bool false, .string (⟨#[]⟩ : ByteArray), .int .i64 0] 37 (0, 0))) ∧ (w'.heap[s_.2]? = some (.cells #[.bool false, .string (⟨#[]⟩ : ByteArray), .int .i64 0] 37 (0, 0))) ∧ (w.heap.size ≤ s_.1) ∧ (w.heap.size ≤ s_.1) ∧ (s_.2 ≠ s_.1) ∧ (s_.1 ≠ s_.2) ∧ (w.heap.size ≤ s_.2) ∧ (w.heap.size ≤ s_.2) ∧ (Below w.heap.size w w')) ?_ ?_
        rotate_left
        · intro hCont
          refine two_ (i := 6) (j := 7) (Ni := some 11) (Nj := some 12) #[true, true, true, true, true, true, true, false, false, false] #[true, true, true, true, true, true, false, true, false, false] rfl rfl rfl rfl (two_of HT_.out (by kernel_rfl)) (by decide) (by decide) (fun K hK => ?_) (fun K hK => ?_)
          · skip
            refine box_step ?hg (N := 11) ?hd (cs := #[.bool false, .string (⟨#[]⟩ : ByteArray), .int .i64 0]) (t := 37) ?hr ?_; (case hd => rfl); (case hg => rfl); (case hr => first | (go_simp; done) | (go_simp; rfl))
            intro gb481 hg w23 hbox hb
            have HS0_ := (hb.cell (World.block_lt_of_cell? _ _ (hHeld.1))).trans (hHeld.1)
            have HS1_ := (hb.cell (World.block_lt_of_cell? _ _ (hHeld.2.1))).trans (hHeld.2.1)
            have HS2_ := (hb.cell (World.block_lt_of_cell? _ _ (hHeld.2.2.1))).trans (hHeld.2.2.1)
            have HS3_ := (hb.cell (World.block_lt_of_cell? _ _ (hHeld.2.2.2.1))).trans (hHeld.2.2.2.1)
            have HS4_ := (hb.cell (World.block_lt_of_cell? _ _ (hHeld.2.2.2.2.1))).trans (hHeld.2.2.2.2.1)
            have HS5_ := (hb.cell (World.block_lt_of_cell? _ _ (hHeld.2.2.2.2.2))).trans (hHeld.2.2.2.2.2)
            have n0_ := Aside0.mk (Kd.R_below (Kd.R_elderB (by (with_reducible repeat (first | apply Kd.R_alloc | apply Kd.R_drewN | apply Kd.R_drew)); exact HO469.out) gb481 (Nat.le_of_eq hg.symm)) hb)
            have n1_ := Aside0.mk (Kd.R_below (Kd.R_elderB (by (with_reducible repeat (first | apply Kd.R_alloc | apply Kd.R_drewN | apply Kd.R_drew)); exact HO472.out) gb481 (Nat.le_of_eq hg.symm)) hb)
            have n2_ := Aside0.mk (Kd.R_below (by (with_reducible repeat (first | apply Kd.R_alloc | apply Kd.R_drewN | apply Kd.R_drew)); exact HO475.out) hb)
            have n3_ := Aside0.mk (Kd.R_below (Kd.R_elderB (by (with_reducible repeat (first | apply Kd.R_alloc | apply Kd.R_drewN | apply Kd.R_drew)); exact HO478.out) gb481 (Nat.le_of_eq hg.symm)) hb)
            have n4_ := Aside0.mk (below_step (by repeat (first | (with_reducible first | exact HB.out | apply below_alloc | apply pw_below_drewN | apply below_drew1) | exact HB.out)) hb)
            have n5_ := Aside0.mk (hbox)
            have n6_ := Aside0.mk ((by rw [hg]; exact (below_size (by repeat (first | (with_reducible first | exact HB.out | apply below_alloc | apply pw_below_drewN | apply below_drew1) | exact HB.out))) : w.heap.size ≤ gb481))
            have n7_ := Aside0.mk ((by rw [hg]; exact (below_size (by repeat (first | (with_reducible first | exact HB.out | apply below_alloc | apply pw_below_drewN | apply below_drew1) | exact HB.out))) : w.heap.size ≤ gb481))
            clear HO469
            clear HO472
            clear HO475
            clear HO478
            clear HB
            have HO469 := n0_
            have HO472 := n1_
            have HO475 := n2_
            have HO478 := n3_
            have HB := n4_
            have BK481 := n5_
            have GW481 := n6_
            have GE481 := n7_
            clear n0_ n1_ n2_ n3_ n4_ n5_ n6_ n7_
            clear hb hbox hg
            refine hK.out _ _ ⟨HS0_, HS1_, HS2_, HS3_, HS4_, HS5_⟩ (fun hHeld => ?_)
            clear hK K
            refine norm_ (a' := ?_) ?_ ?_
            rotate_left
            · show Act.put _ (some 11) _ = _
              simp only [Act.put, List.setIfInBounds_toArray, List.set_cons_zero, List.set_cons_succ, i64_w, i32_w]
              rfl
            refine one_ (i := 7) (N := some 12) #[true, true, true, true, true, true, true, true, false, false] rfl rfl (one_of HT_.out (by kernel_rfl)) (by decide) (fun K hK => ?_)
            refine box_step ?hg (N := 12) ?hd (cs := #[.bool false, .string (⟨#[]⟩ : ByteArray), .int .i64 0]) (t := 37) ?hr ?_; (case hd => rfl); (case hg => rfl); (case hr => first | (go_simp; done) | (go_simp; rfl))
            intro gb482 hg w24 hbox hb
            have HS0_ := (hb.cell (World.block_lt_of_cell? _ _ (hHeld.1))).trans (hHeld.1)
            have HS1_ := (hb.cell (World.block_lt_of_cell? _ _ (hHeld.2.1))).trans (hHeld.2.1)
            have HS2_ := (hb.cell (World.block_lt_of_cell? _ _ (hHeld.2.2.1))).trans (hHeld.2.2.1)
            have HS3_ := (hb.cell (World.block_lt_of_cell? _ _ (hHeld.2.2.2.1))).trans (hHeld.2.2.2.1)
            have HS4_ := (hb.cell (World.block_lt_of_cell? _ _ (hHeld.2.2.2.2.1))).trans (hHeld.2.2.2.2.1)
            have HS5_ := (hb.cell (World.block_lt_of_cell? _ _ (hHeld.2.2.2.2.2))).trans (hHeld.2.2.2.2.2)
            have n0_ := Aside0.mk (Kd.R_below (Kd.R_elderB (by (with_reducible repeat (first | apply Kd.R_alloc | apply Kd.R_drewN | apply Kd.R_drew)); exact HO469.out) gb482 (Nat.le_of_eq hg.symm)) hb)
            have n1_ := Aside0.mk (Kd.R_below (Kd.R_elderB (by (with_reducible repeat (first | apply Kd.R_alloc | apply Kd.R_drewN | apply Kd.R_drew)); exact HO472.out) gb482 (Nat.le_of_eq hg.symm)) hb)
            have n2_ := Aside0.mk (Kd.R_below (by (with_reducible repeat (first | apply Kd.R_alloc | apply Kd.R_drewN | apply Kd.R_drew)); exact HO475.out) hb)
            have n3_ := Aside0.mk (Kd.R_below (Kd.R_elderB (by (with_reducible repeat (first | apply Kd.R_alloc | apply Kd.R_drewN | apply Kd.R_drew)); exact HO478.out) gb482 (Nat.le_of_eq hg.symm)) hb)
            have n4_ := Aside0.mk (blk_below (g := gb481) (o := .cells #[.bool false, .string (⟨#[]⟩ : ByteArray), .int .i64 0] 37 (0, 0)) (by (with_reducible repeat (first | refine blk_drewN ?_ _ | refine blk_drew ?_ | refine blk_alloc ?_ _)); exact BK481.out) hb)
            have n5_ := Aside0.mk (below_step (by repeat (first | (with_reducible first | exact HB.out | apply below_alloc | apply pw_below_drewN | apply below_drew1 | refine below_set ?_ GE481.out) | exact HB.out)) hb)
            have n6_ := Aside0.mk (hbox)
            have n7_ := Aside0.mk ((by rw [hg]; exact (below_size (by repeat (first | (with_reducible first | exact HB.out | apply below_alloc | apply pw_below_drewN | apply below_drew1 | refine below_set ?_ GE481.out) | exact HB.out))) : w.heap.size ≤ gb482))
            have n8_ := Aside0.mk ((by rw [hg]; exact (below_size (by repeat (first | (with_reducible first | exact HB.out | apply below_alloc | apply pw_below_drewN | apply below_drew1 | refine below_set ?_ GE481.out) | exact HB.out))) : w.heap.size ≤ gb482))
            have n9_ := Aside0.mk ((by rw [hg]; exact Nat.ne_of_lt (blk_lt (g := gb481) (o := .cells #[.bool false, .string (⟨#[]⟩ : ByteArray), .int .i64 0] 37 (0, 0)) (by (with_reducible repeat (first | refine blk_drewN ?_ _ | refine blk_drew ?_ | refine blk_alloc ?_ _)); exact BK481.out)) : gb481 ≠ gb482))
            have n10_ := Aside0.mk ((by rw [hg]; exact Nat.ne_of_gt (blk_lt (g := gb481) (o := .cells #[.bool false, .string (⟨#[]⟩ : ByteArray), .int .i64 0] 37 (0, 0)) (by (with_reducible repeat (first | refine blk_drewN ?_ _ | refine blk_drew ?_ | refine blk_alloc ?_ _)); exact BK481.out)) : gb482 ≠ gb481))
            clear HO469
            clear HO472
            clear HO475
            clear HO478
            clear BK481
            clear HB
            have HO469 := n0_
            have HO472 := n1_
            have HO475 := n2_
            have HO478 := n3_
            have BK481 := n4_
            have HB := n5_
            have BK482 := n6_
            have GW482 := n7_
            have GE482 := n8_
            have NB481_482 := n9_
            have NB482_481 := n10_
            clear n0_ n1_ n2_ n3_ n4_ n5_ n6_ n7_ n8_ n9_ n10_
            clear hb hbox hg
            refine hK.out _ _ ⟨HS0_, HS1_, HS2_, HS3_, HS4_, HS5_⟩ (fun hHeld => ?_)
            clear hK K
            refine norm_ (a' := ?_) ?_ ?_
            rotate_left
            · show Act.put _ (some 12) _ = _
              simp only [Act.put, List.setIfInBounds_toArray, List.set_cons_zero, List.set_cons_succ, i64_w, i32_w]
              rfl
            exact norm_ (by simp only [putAll, Act.put, List.setIfInBounds_toArray, List.set_cons_zero, List.set_cons_succ]) (hCont (gb481, gb482) _ ⟨hHeld, (by (with_reducible repeat (first | apply Kd.R_alloc | apply Kd.R_drewN | apply Kd.R_drew)); exact Kd.R_mono HO469.out (fun _ hk => ⟨hk.1.1.1.2, ⟨hk.1.1.2, ⟨hk.1.2, hk.2⟩⟩⟩)), (by (with_reducible repeat (first | apply Kd.R_alloc | apply Kd.R_drewN | apply Kd.R_drew)); exact Kd.R_mono HO472.out (fun _ hk => ⟨hk.1.1.1.2, ⟨hk.1.1.2, ⟨hk.1.2, hk.2⟩⟩⟩)), (by (with_reducible repeat (first | apply Kd.R_alloc | apply Kd.R_drewN | apply Kd.R_drew)); exact HO475.out), (by (with_reducible repeat (first | apply Kd.R_alloc | apply Kd.R_drewN | apply Kd.R_drew)); exact Kd.R_mono HO478.out (fun _ hk => ⟨hk.1.1.1.2, ⟨hk.1.1.2, ⟨hk.1.2, hk.2⟩⟩⟩)), (by (with_reducible repeat (first | refine blk_drewN ?_ _ | refine blk_drew ?_ | refine blk_alloc ?_ _)); exact BK481.out), (by (with_reducible repeat (first | refine blk_drewN ?_ _ | refine blk_drew ?_ | refine blk_alloc ?_ _)); exact BK482.out), GW481.out, GE481.out, NB482_481.out, NB481_482.out, GW482.out, GE482.out, (by repeat (first | (with_reducible first | exact HB.out | apply below_alloc | apply pw_below_drewN | apply below_drew1 | refine below_set ?_ GE481.out | refine below_set ?_ GE482.out) | exact HB.out))⟩)
          · skip
            refine box_step ?hg (N := 12) ?hd (cs := #[.bool false, .string (⟨#[]⟩ : ByteArray), .int .i64 0]) (t := 37) ?hr ?_; (case hd => rfl); (case hg => rfl); (case hr => first | (go_simp; done) | (go_simp; rfl))
            intro gb482 hg w23 hbox hb
            have HS0_ := (hb.cell (World.block_lt_of_cell? _ _ (hHeld.1))).trans (hHeld.1)
            have HS1_ := (hb.cell (World.block_lt_of_cell? _ _ (hHeld.2.1))).trans (hHeld.2.1)
            have HS2_ := (hb.cell (World.block_lt_of_cell? _ _ (hHeld.2.2.1))).trans (hHeld.2.2.1)
            have HS3_ := (hb.cell (World.block_lt_of_cell? _ _ (hHeld.2.2.2.1))).trans (hHeld.2.2.2.1)
            have HS4_ := (hb.cell (World.block_lt_of_cell? _ _ (hHeld.2.2.2.2.1))).trans (hHeld.2.2.2.2.1)
            have HS5_ := (hb.cell (World.block_lt_of_cell? _ _ (hHeld.2.2.2.2.2))).trans (hHeld.2.2.2.2.2)
            have n0_ := Aside0.mk (Kd.R_below (Kd.R_elderB (by (with_reducible repeat (first | apply Kd.R_alloc | apply Kd.R_drewN | apply Kd.R_drew)); exact HO469.out) gb482 (Nat.le_of_eq hg.symm)) hb)
            have n1_ := Aside0.mk (Kd.R_below (Kd.R_elderB (by (with_reducible repeat (first | apply Kd.R_alloc | apply Kd.R_drewN | apply Kd.R_drew)); exact HO472.out) gb482 (Nat.le_of_eq hg.symm)) hb)
            have n2_ := Aside0.mk (Kd.R_below (by (with_reducible repeat (first | apply Kd.R_alloc | apply Kd.R_drewN | apply Kd.R_drew)); exact HO475.out) hb)
            have n3_ := Aside0.mk (Kd.R_below (Kd.R_elderB (by (with_reducible repeat (first | apply Kd.R_alloc | apply Kd.R_drewN | apply Kd.R_drew)); exact HO478.out) gb482 (Nat.le_of_eq hg.symm)) hb)
            have n4_ := Aside0.mk (below_step (by repeat (first | (with_reducible first | exact HB.out | apply below_alloc | apply pw_below_drewN | apply below_drew1) | exact HB.out)) hb)
            have n5_ := Aside0.mk (hbox)
            have n6_ := Aside0.mk ((by rw [hg]; exact (below_size (by repeat (first | (with_reducible first | exact HB.out | apply below_alloc | apply pw_below_drewN | apply below_drew1) | exact HB.out))) : w.heap.size ≤ gb482))
            have n7_ := Aside0.mk ((by rw [hg]; exact (below_size (by repeat (first | (with_reducible first | exact HB.out | apply below_alloc | apply pw_below_drewN | apply below_drew1) | exact HB.out))) : w.heap.size ≤ gb482))
            clear HO469
            clear HO472
            clear HO475
            clear HO478
            clear HB
            have HO469 := n0_
            have HO472 := n1_
            have HO475 := n2_
            have HO478 := n3_
            have HB := n4_
            have BK482 := n5_
            have GW482 := n6_
            have GE482 := n7_
            clear n0_ n1_ n2_ n3_ n4_ n5_ n6_ n7_
            clear hb hbox hg
            refine hK.out _ _ ⟨HS0_, HS1_, HS2_, HS3_, HS4_, HS5_⟩ (fun hHeld => ?_)
            clear hK K
            refine norm_ (a' := ?_) ?_ ?_
            rotate_left
            · show Act.put _ (some 12) _ = _
              simp only [Act.put, List.setIfInBounds_toArray, List.set_cons_zero, List.set_cons_succ, i64_w, i32_w]
              rfl
            refine one_ (i := 6) (N := some 11) #[true, true, true, true, true, true, true, true, false, false] rfl rfl (one_of HT_.out (by kernel_rfl)) (by decide) (fun K hK => ?_)
            refine box_step ?hg (N := 11) ?hd (cs := #[.bool false, .string (⟨#[]⟩ : ByteArray), .int .i64 0]) (t := 37) ?hr ?_; (case hd => rfl); (case hg => rfl); (case hr => first | (go_simp; done) | (go_simp; rfl))
            intro gb481 hg w24 hbox hb
            have HS0_ := (hb.cell (World.block_lt_of_cell? _ _ (hHeld.1))).trans (hHeld.1)
            have HS1_ := (hb.cell (World.block_lt_of_cell? _ _ (hHeld.2.1))).trans (hHeld.2.1)
            have HS2_ := (hb.cell (World.block_lt_of_cell? _ _ (hHeld.2.2.1))).trans (hHeld.2.2.1)
            have HS3_ := (hb.cell (World.block_lt_of_cell? _ _ (hHeld.2.2.2.1))).trans (hHeld.2.2.2.1)
            have HS4_ := (hb.cell (World.block_lt_of_cell? _ _ (hHeld.2.2.2.2.1))).trans (hHeld.2.2.2.2.1)
            have HS5_ := (hb.cell (World.block_lt_of_cell? _ _ (hHeld.2.2.2.2.2))).trans (hHeld.2.2.2.2.2)
            have n0_ := Aside0.mk (Kd.R_below (Kd.R_elderB (by (with_reducible repeat (first | apply Kd.R_alloc | apply Kd.R_drewN | apply Kd.R_drew)); exact HO469.out) gb481 (Nat.le_of_eq hg.symm)) hb)
            have n1_ := Aside0.mk (Kd.R_below (Kd.R_elderB (by (with_reducible repeat (first | apply Kd.R_alloc | apply Kd.R_drewN | apply Kd.R_drew)); exact HO472.out) gb481 (Nat.le_of_eq hg.symm)) hb)
            have n2_ := Aside0.mk (Kd.R_below (by (with_reducible repeat (first | apply Kd.R_alloc | apply Kd.R_drewN | apply Kd.R_drew)); exact HO475.out) hb)
            have n3_ := Aside0.mk (Kd.R_below (Kd.R_elderB (by (with_reducible repeat (first | apply Kd.R_alloc | apply Kd.R_drewN | apply Kd.R_drew)); exact HO478.out) gb481 (Nat.le_of_eq hg.symm)) hb)
            have n4_ := Aside0.mk (blk_below (g := gb482) (o := .cells #[.bool false, .string (⟨#[]⟩ : ByteArray), .int .i64 0] 37 (0, 0)) (by (with_reducible repeat (first | refine blk_drewN ?_ _ | refine blk_drew ?_ | refine blk_alloc ?_ _)); exact BK482.out) hb)
            have n5_ := Aside0.mk (below_step (by repeat (first | (with_reducible first | exact HB.out | apply below_alloc | apply pw_below_drewN | apply below_drew1 | refine below_set ?_ GE482.out) | exact HB.out)) hb)
            have n6_ := Aside0.mk (hbox)
            have n7_ := Aside0.mk ((by rw [hg]; exact (below_size (by repeat (first | (with_reducible first | exact HB.out | apply below_alloc | apply pw_below_drewN | apply below_drew1 | refine below_set ?_ GE482.out) | exact HB.out))) : w.heap.size ≤ gb481))
            have n8_ := Aside0.mk ((by rw [hg]; exact (below_size (by repeat (first | (with_reducible first | exact HB.out | apply below_alloc | apply pw_below_drewN | apply below_drew1 | refine below_set ?_ GE482.out) | exact HB.out))) : w.heap.size ≤ gb481))
            have n9_ := Aside0.mk ((by rw [hg]; exact Nat.ne_of_lt (blk_lt (g := gb482) (o := .cells #[.bool false, .string (⟨#[]⟩ : ByteArray), .int .i64 0] 37 (0, 0)) (by (with_reducible repeat (first | refine blk_drewN ?_ _ | refine blk_drew ?_ | refine blk_alloc ?_ _)); exact BK482.out)) : gb482 ≠ gb481))
            have n10_ := Aside0.mk ((by rw [hg]; exact Nat.ne_of_gt (blk_lt (g := gb482) (o := .cells #[.bool false, .string (⟨#[]⟩ : ByteArray), .int .i64 0] 37 (0, 0)) (by (with_reducible repeat (first | refine blk_drewN ?_ _ | refine blk_drew ?_ | refine blk_alloc ?_ _)); exact BK482.out)) : gb481 ≠ gb482))
            clear HO469
            clear HO472
            clear HO475
            clear HO478
            clear BK482
            clear HB
            have HO469 := n0_
            have HO472 := n1_
            have HO475 := n2_
            have HO478 := n3_
            have BK482 := n4_
            have HB := n5_
            have BK481 := n6_
            have GW481 := n7_
            have GE481 := n8_
            have NB482_481 := n9_
            have NB481_482 := n10_
            clear n0_ n1_ n2_ n3_ n4_ n5_ n6_ n7_ n8_ n9_ n10_
            clear hb hbox hg
            refine hK.out _ _ ⟨HS0_, HS1_, HS2_, HS3_, HS4_, HS5_⟩ (fun hHeld => ?_)
            clear hK K
            refine norm_ (a' := ?_) ?_ ?_
            rotate_left
            · show Act.put _ (some 11) _ = _
              simp only [Act.put, List.setIfInBounds_toArray, List.set_cons_zero, List.set_cons_succ, i64_w, i32_w]
              rfl
            exact norm_ (by simp only [putAll, Act.put, List.setIfInBounds_toArray, List.set_cons_zero, List.set_cons_succ]) (hCont (gb481, gb482) _ ⟨hHeld, (by (with_reducible repeat (first | apply Kd.R_alloc | apply Kd.R_drewN | apply Kd.R_drew)); exact Kd.R_mono HO469.out (fun _ hk => ⟨hk.1.1.1.2, ⟨hk.1.1.2, ⟨hk.2, hk.1.2⟩⟩⟩)), (by (with_reducible repeat (first | apply Kd.R_alloc | apply Kd.R_drewN | apply Kd.R_drew)); exact Kd.R_mono HO472.out (fun _ hk => ⟨hk.1.1.1.2, ⟨hk.1.1.2, ⟨hk.2, hk.1.2⟩⟩⟩)), (by (with_reducible repeat (first | apply Kd.R_alloc | apply Kd.R_drewN | apply Kd.R_drew)); exact HO475.out), (by (with_reducible repeat (first | apply Kd.R_alloc | apply Kd.R_drewN | apply Kd.R_drew)); exact Kd.R_mono HO478.out (fun _ hk => ⟨hk.1.1.1.2, ⟨hk.1.1.2, ⟨hk.2, hk.1.2⟩⟩⟩)), (by (with_reducible repeat (first | refine blk_drewN ?_ _ | refine blk_drew ?_ | refine blk_alloc ?_ _)); exact BK481.out), (by (with_reducible repeat (first | refine blk_drewN ?_ _ | refine blk_drew ?_ | refine blk_alloc ?_ _)); exact BK482.out), GW481.out, GE481.out, NB482_481.out, NB481_482.out, GW482.out, GE482.out, (by repeat (first | (with_reducible first | exact HB.out | apply below_alloc | apply pw_below_drewN | apply below_drew1 | refine below_set ?_ GE482.out | refine below_set ?_ GE481.out) | exact HB.out))⟩)
        rintro ⟨gb481, gb482⟩ w25 ⟨hS_, h0_, h1_, h2_, h3_, h4_, h5_, h6_, h7_, h8_, h9_, h10_, h11_, h12_⟩
        have n0_ : Aside0 (Kd.R k37 37 w25 w.heap.size (fun k_ => some k_ ≠ (v471 : Value).ownBlock ∧ some k_ ≠ (.slice (some ad479) t476.length co22 : Value).ownBlock ∧ k_ ≠ gb481 ∧ k_ ≠ gb482) (.slice Ao15 t467.length co15) t467) := ⟨h0_⟩
        have n1_ : Aside0 (Kd.R k37 37 w25 w.heap.size (fun k_ => some k_ ≠ (.slice Ao15 t467.length co15 : Value).ownBlock ∧ some k_ ≠ (.slice (some ad479) t476.length co22 : Value).ownBlock ∧ k_ ≠ gb481 ∧ k_ ≠ gb482) v471 t470) := ⟨h1_⟩
        have n2_ : Aside0 (Kd.R (Kd.int .i64) 3 w25 w.heap.size (fun _ => True) (.slice Ao19 y473.length co19) y473) := ⟨h2_⟩
        have n3_ : Aside0 (Kd.R k37 37 w25 w.heap.size (fun k_ => some k_ ≠ (.slice Ao15 t467.length co15 : Value).ownBlock ∧ some k_ ≠ (v471 : Value).ownBlock ∧ k_ ≠ gb481 ∧ k_ ≠ gb482) (.slice (some ad479) t476.length co22) t476) := ⟨h3_⟩
        have n4_ : Aside0 (w25.heap[gb481]? = some (.cells #[.bool false, .string (⟨#[]⟩ : ByteArray), .int .i64 0] 37 (0, 0))) := ⟨h4_⟩
        have n5_ : Aside0 (w25.heap[gb482]? = some (.cells #[.bool false, .string (⟨#[]⟩ : ByteArray), .int .i64 0] 37 (0, 0))) := ⟨h5_⟩
        have n6_ : Aside0 (w.heap.size ≤ gb481) := ⟨h6_⟩
        have n7_ : Aside0 (w.heap.size ≤ gb481) := ⟨h7_⟩
        have n8_ : Aside0 (gb482 ≠ gb481) := ⟨h8_⟩
        have n9_ : Aside0 (gb481 ≠ gb482) := ⟨h9_⟩
        have n10_ : Aside0 (w.heap.size ≤ gb482) := ⟨h10_⟩
        have n11_ : Aside0 (w.heap.size ≤ gb482) := ⟨h11_⟩
        have n12_ : Aside0 (Below w.heap.size w w25) := ⟨h12_⟩
        clear HO469
        clear HO472
        clear HO475
        clear HO478
        clear HB
        clear h0_ h1_ h2_ h3_ h4_ h5_ h6_ h7_ h8_ h9_ h10_ h11_ h12_
        have HO469 := n0_
        have HO472 := n1_
        have HO475 := n2_
        have HO478 := n3_
        have BK481 := n4_
        have BK482 := n5_
        have GW481 := n6_
        have GE481 := n7_
        have NB482_481 := n8_
        have NB481_482 := n9_
        have GW482 := n10_
        have GE482 := n11_
        have HB := n12_
        clear n0_ n1_ n2_ n3_ n4_ n5_ n6_ n7_ n8_ n9_ n10_ n11_ n12_
        have hHeld : w25.cell? ad479 = some (.bool ((rd_T37 t476 0).f0)) ∧ w25.cell? ⟨ad479.block, ad479.off + 1, none⟩ = some (.string ((rd_T37 t476 0).f1)) ∧ w25.cell? ⟨ad479.block, ad479.off + 2, none⟩ = some (.int .i64 ((rd_T37 t476 0).f2)) ∧ w25.cell? ⟨ad479.block, ad479.off + 3, none⟩ = some (.bool ((rd_T37 t476 1).f0)) ∧ w25.cell? ⟨ad479.block, ad479.off + 3 + 1, none⟩ = some (.string ((rd_T37 t476 1).f1)) ∧ w25.cell? ⟨ad479.block, ad479.off + 3 + 2, none⟩ = some (.int .i64 ((rd_T37 t476 1).f2)) := hS_
        refine norm_ (a' := ?_) ?_ ?_
        rotate_left
        · simp only [putAll, Act.put, List.setIfInBounds_toArray, List.set_cons_zero, List.set_cons_succ]
          rfl
        refine one_ (i := 8) (N := none) #[true, true, true, true, true, true, true, true, true, false] rfl rfl (one_of HT_.out (by kernel_rfl)) (by decide) (fun K hK => ?_)
        have hs26 : w25.cell? ⟨gb481, 0, none⟩ = some (.bool false) := (blk_cell BK481.out 0).trans rfl
        have hfs26 := blk_frozen BK481.out 0
        have hns26_1 := NB482_481.out
        have hms26_1 := NB481_482.out
        have hs27 : w25.cell? ⟨gb481, 1, none⟩ = some (.string (⟨#[]⟩ : ByteArray)) := (blk_cell BK481.out 1).trans rfl
        have hfs27 := blk_frozen BK481.out 1
        have hns27_1 := NB482_481.out
        have hms27_1 := NB481_482.out
        have hs28 : w25.cell? ⟨gb481, 2, none⟩ = some (.int .i64 0) := (blk_cell BK481.out 2).trans rfl
        have hfs28 := blk_frozen BK481.out 2
        have hns28_1 := NB482_481.out
        have hms28_1 := NB481_482.out
        refine skip_ (w1 := ?_) (by rfl) rfl ?_ ?_
        rotate_left
        · go_simp
          rfl
        refine hK.out _ _ ⟨((cell_far (p := ⟨gb481, _, none⟩) (by first | exact Kd.own_blk (Kd.R_away HO478.out (fun _ hk => hk.2.2.1)) | (rw [add_block]; exact Kd.own_blk (Kd.R_away HO478.out (fun _ hk => hk.2.2.1))) | (show (Addr.add _ _).block ≠ _; rw [add_block]; exact Kd.own_blk (Kd.R_away HO478.out (fun _ hk => hk.2.2.1))) | (dsimp only; exact Kd.own_blk (Kd.R_away HO478.out (fun _ hk => hk.2.2.1)))) _).trans (((cell_far (p := ⟨gb481, _, none⟩) (by first | exact Kd.own_blk (Kd.R_away HO478.out (fun _ hk => hk.2.2.1)) | (rw [add_block]; exact Kd.own_blk (Kd.R_away HO478.out (fun _ hk => hk.2.2.1))) | (show (Addr.add _ _).block ≠ _; rw [add_block]; exact Kd.own_blk (Kd.R_away HO478.out (fun _ hk => hk.2.2.1))) | (dsimp only; exact Kd.own_blk (Kd.R_away HO478.out (fun _ hk => hk.2.2.1)))) _).trans (((cell_far (p := ⟨gb481, _, none⟩) (by first | exact Kd.own_blk (Kd.R_away HO478.out (fun _ hk => hk.2.2.1)) | (rw [add_block]; exact Kd.own_blk (Kd.R_away HO478.out (fun _ hk => hk.2.2.1))) | (show (Addr.add _ _).block ≠ _; rw [add_block]; exact Kd.own_blk (Kd.R_away HO478.out (fun _ hk => hk.2.2.1))) | (dsimp only; exact Kd.own_blk (Kd.R_away HO478.out (fun _ hk => hk.2.2.1)))) _).trans (hHeld.1)))))), ((cell_far (p := ⟨gb481, _, none⟩) (by first | exact Kd.own_blk (Kd.R_away HO478.out (fun _ hk => hk.2.2.1)) | (rw [add_block]; exact Kd.own_blk (Kd.R_away HO478.out (fun _ hk => hk.2.2.1))) | (show (Addr.add _ _).block ≠ _; rw [add_block]; exact Kd.own_blk (Kd.R_away HO478.out (fun _ hk => hk.2.2.1))) | (dsimp only; exact Kd.own_blk (Kd.R_away HO478.out (fun _ hk => hk.2.2.1)))) _).trans (((cell_far (p := ⟨gb481, _, none⟩) (by first | exact Kd.own_blk (Kd.R_away HO478.out (fun _ hk => hk.2.2.1)) | (rw [add_block]; exact Kd.own_blk (Kd.R_away HO478.out (fun _ hk => hk.2.2.1))) | (show (Addr.add _ _).block ≠ _; rw [add_block]; exact Kd.own_blk (Kd.R_away HO478.out (fun _ hk => hk.2.2.1))) | (dsimp only; exact Kd.own_blk (Kd.R_away HO478.out (fun _ hk => hk.2.2.1)))) _).trans (((cell_far (p := ⟨gb481, _, none⟩) (by first | exact Kd.own_blk (Kd.R_away HO478.out (fun _ hk => hk.2.2.1)) | (rw [add_block]; exact Kd.own_blk (Kd.R_away HO478.out (fun _ hk => hk.2.2.1))) | (show (Addr.add _ _).block ≠ _; rw [add_block]; exact Kd.own_blk (Kd.R_away HO478.out (fun _ hk => hk.2.2.1))) | (dsimp only; exact Kd.own_blk (Kd.R_away HO478.out (fun _ hk => hk.2.2.1)))) _).trans (hHeld.2.1)))))), ((cell_far (p := ⟨gb481, _, none⟩) (by first | exact Kd.own_blk (Kd.R_away HO478.out (fun _ hk => hk.2.2.1)) | (rw [add_block]; exact Kd.own_blk (Kd.R_away HO478.out (fun _ hk => hk.2.2.1))) | (show (Addr.add _ _).block ≠ _; rw [add_block]; exact Kd.own_blk (Kd.R_away HO478.out (fun _ hk => hk.2.2.1))) | (dsimp only; exact Kd.own_blk (Kd.R_away HO478.out (fun _ hk => hk.2.2.1)))) _).trans (((cell_far (p := ⟨gb481, _, none⟩) (by first | exact Kd.own_blk (Kd.R_away HO478.out (fun _ hk => hk.2.2.1)) | (rw [add_block]; exact Kd.own_blk (Kd.R_away HO478.out (fun _ hk => hk.2.2.1))) | (show (Addr.add _ _).block ≠ _; rw [add_block]; exact Kd.own_blk (Kd.R_away HO478.out (fun _ hk => hk.2.2.1))) | (dsimp only; exact Kd.own_blk (Kd.R_away HO478.out (fun _ hk => hk.2.2.1)))) _).trans (((cell_far (p := ⟨gb481, _, none⟩) (by first | exact Kd.own_blk (Kd.R_away HO478.out (fun _ hk => hk.2.2.1)) | (rw [add_block]; exact Kd.own_blk (Kd.R_away HO478.out (fun _ hk => hk.2.2.1))) | (show (Addr.add _ _).block ≠ _; rw [add_block]; exact Kd.own_blk (Kd.R_away HO478.out (fun _ hk => hk.2.2.1))) | (dsimp only; exact Kd.own_blk (Kd.R_away HO478.out (fun _ hk => hk.2.2.1)))) _).trans (hHeld.2.2.1)))))), ((cell_far (p := ⟨gb481, _, none⟩) (by first | exact Kd.own_blk (Kd.R_away HO478.out (fun _ hk => hk.2.2.1)) | (rw [add_block]; exact Kd.own_blk (Kd.R_away HO478.out (fun _ hk => hk.2.2.1))) | (show (Addr.add _ _).block ≠ _; rw [add_block]; exact Kd.own_blk (Kd.R_away HO478.out (fun _ hk => hk.2.2.1))) | (dsimp only; exact Kd.own_blk (Kd.R_away HO478.out (fun _ hk => hk.2.2.1)))) _).trans (((cell_far (p := ⟨gb481, _, none⟩) (by first | exact Kd.own_blk (Kd.R_away HO478.out (fun _ hk => hk.2.2.1)) | (rw [add_block]; exact Kd.own_blk (Kd.R_away HO478.out (fun _ hk => hk.2.2.1))) | (show (Addr.add _ _).block ≠ _; rw [add_block]; exact Kd.own_blk (Kd.R_away HO478.out (fun _ hk => hk.2.2.1))) | (dsimp only; exact Kd.own_blk (Kd.R_away HO478.out (fun _ hk => hk.2.2.1)))) _).trans (((cell_far (p := ⟨gb481, _, none⟩) (by first | exact Kd.own_blk (Kd.R_away HO478.out (fun _ hk => hk.2.2.1)) | (rw [add_block]; exact Kd.own_blk (Kd.R_away HO478.out (fun _ hk => hk.2.2.1))) | (show (Addr.add _ _).block ≠ _; rw [add_block]; exact Kd.own_blk (Kd.R_away HO478.out (fun _ hk => hk.2.2.1))) | (dsimp only; exact Kd.own_blk (Kd.R_away HO478.out (fun _ hk => hk.2.2.1)))) _).trans (hHeld.2.2.2.1)))))), ((cell_far (p := ⟨gb481, _, none⟩) (by first | exact Kd.own_blk (Kd.R_away HO478.out (fun _ hk => hk.2.2.1)) | (rw [add_block]; exact Kd.own_blk (Kd.R_away HO478.out (fun _ hk => hk.2.2.1))) | (show (Addr.add _ _).block ≠ _; rw [add_block]; exact Kd.own_blk (Kd.R_away HO478.out (fun _ hk => hk.2.2.1))) | (dsimp only; exact Kd.own_blk (Kd.R_away HO478.out (fun _ hk => hk.2.2.1)))) _).trans (((cell_far (p := ⟨gb481, _, none⟩) (by first | exact Kd.own_blk (Kd.R_away HO478.out (fun _ hk => hk.2.2.1)) | (rw [add_block]; exact Kd.own_blk (Kd.R_away HO478.out (fun _ hk => hk.2.2.1))) | (show (Addr.add _ _).block ≠ _; rw [add_block]; exact Kd.own_blk (Kd.R_away HO478.out (fun _ hk => hk.2.2.1))) | (dsimp only; exact Kd.own_blk (Kd.R_away HO478.out (fun _ hk => hk.2.2.1)))) _).trans (((cell_far (p := ⟨gb481, _, none⟩) (by first | exact Kd.own_blk (Kd.R_away HO478.out (fun _ hk => hk.2.2.1)) | (rw [add_block]; exact Kd.own_blk (Kd.R_away HO478.out (fun _ hk => hk.2.2.1))) | (show (Addr.add _ _).block ≠ _; rw [add_block]; exact Kd.own_blk (Kd.R_away HO478.out (fun _ hk => hk.2.2.1))) | (dsimp only; exact Kd.own_blk (Kd.R_away HO478.out (fun _ hk => hk.2.2.1)))) _).trans (hHeld.2.2.2.2.1)))))), ((cell_far (p := ⟨gb481, _, none⟩) (by first | exact Kd.own_blk (Kd.R_away HO478.out (fun _ hk => hk.2.2.1)) | (rw [add_block]; exact Kd.own_blk (Kd.R_away HO478.out (fun _ hk => hk.2.2.1))) | (show (Addr.add _ _).block ≠ _; rw [add_block]; exact Kd.own_blk (Kd.R_away HO478.out (fun _ hk => hk.2.2.1))) | (dsimp only; exact Kd.own_blk (Kd.R_away HO478.out (fun _ hk => hk.2.2.1)))) _).trans (((cell_far (p := ⟨gb481, _, none⟩) (by first | exact Kd.own_blk (Kd.R_away HO478.out (fun _ hk => hk.2.2.1)) | (rw [add_block]; exact Kd.own_blk (Kd.R_away HO478.out (fun _ hk => hk.2.2.1))) | (show (Addr.add _ _).block ≠ _; rw [add_block]; exact Kd.own_blk (Kd.R_away HO478.out (fun _ hk => hk.2.2.1))) | (dsimp only; exact Kd.own_blk (Kd.R_away HO478.out (fun _ hk => hk.2.2.1)))) _).trans (((cell_far (p := ⟨gb481, _, none⟩) (by first | exact Kd.own_blk (Kd.R_away HO478.out (fun _ hk => hk.2.2.1)) | (rw [add_block]; exact Kd.own_blk (Kd.R_away HO478.out (fun _ hk => hk.2.2.1))) | (show (Addr.add _ _).block ≠ _; rw [add_block]; exact Kd.own_blk (Kd.R_away HO478.out (fun _ hk => hk.2.2.1))) | (dsimp only; exact Kd.own_blk (Kd.R_away HO478.out (fun _ hk => hk.2.2.1)))) _).trans (hHeld.2.2.2.2.2))))))⟩ (fun hHeld => ?_)
        clear hK K
        refine one_ (i := 9) (N := none) #[true, true, true, true, true, true, true, true, true, true] rfl rfl (one_of HT_.out (by kernel_rfl)) (by decide) (fun K hK => ?_)
        have hs29 : w25.cell? ⟨gb482, 0, none⟩ = some (.bool false) := (blk_cell BK482.out 0).trans rfl
        have hfs29 := blk_frozen BK482.out 0
        have hns29_0 := NB481_482.out
        have hms29_0 := NB482_481.out
        have hs30 : w25.cell? ⟨gb482, 1, none⟩ = some (.string (⟨#[]⟩ : ByteArray)) := (blk_cell BK482.out 1).trans rfl
        have hfs30 := blk_frozen BK482.out 1
        have hns30_0 := NB481_482.out
        have hms30_0 := NB482_481.out
        have hs31 : w25.cell? ⟨gb482, 2, none⟩ = some (.int .i64 0) := (blk_cell BK482.out 2).trans rfl
        have hfs31 := blk_frozen BK482.out 2
        have hns31_0 := NB481_482.out
        have hms31_0 := NB482_481.out
        refine skip_ (w1 := ?_) (by rfl) rfl ?_ ?_
        rotate_left
        · go_simp
          rfl
        refine hK.out _ _ ⟨((cell_far (p := ⟨gb482, _, none⟩) (by first | exact Kd.own_blk (Kd.R_away HO478.out (fun _ hk => hk.2.2.2)) | (rw [add_block]; exact Kd.own_blk (Kd.R_away HO478.out (fun _ hk => hk.2.2.2))) | (show (Addr.add _ _).block ≠ _; rw [add_block]; exact Kd.own_blk (Kd.R_away HO478.out (fun _ hk => hk.2.2.2))) | (dsimp only; exact Kd.own_blk (Kd.R_away HO478.out (fun _ hk => hk.2.2.2)))) _).trans (((cell_far (p := ⟨gb482, _, none⟩) (by first | exact Kd.own_blk (Kd.R_away HO478.out (fun _ hk => hk.2.2.2)) | (rw [add_block]; exact Kd.own_blk (Kd.R_away HO478.out (fun _ hk => hk.2.2.2))) | (show (Addr.add _ _).block ≠ _; rw [add_block]; exact Kd.own_blk (Kd.R_away HO478.out (fun _ hk => hk.2.2.2))) | (dsimp only; exact Kd.own_blk (Kd.R_away HO478.out (fun _ hk => hk.2.2.2)))) _).trans (((cell_far (p := ⟨gb482, _, none⟩) (by first | exact Kd.own_blk (Kd.R_away HO478.out (fun _ hk => hk.2.2.2)) | (rw [add_block]; exact Kd.own_blk (Kd.R_away HO478.out (fun _ hk => hk.2.2.2))) | (show (Addr.add _ _).block ≠ _; rw [add_block]; exact Kd.own_blk (Kd.R_away HO478.out (fun _ hk => hk.2.2.2))) | (dsimp only; exact Kd.own_blk (Kd.R_away HO478.out (fun _ hk => hk.2.2.2)))) _).trans (hHeld.1)))))), ((cell_far (p := ⟨gb482, _, none⟩) (by first | exact Kd.own_blk (Kd.R_away HO478.out (fun _ hk => hk.2.2.2)) | (rw [add_block]; exact Kd.own_blk (Kd.R_away HO478.out (fun _ hk => hk.2.2.2))) | (show (Addr.add _ _).block ≠ _; rw [add_block]; exact Kd.own_blk (Kd.R_away HO478.out (fun _ hk => hk.2.2.2))) | (dsimp only; exact Kd.own_blk (Kd.R_away HO478.out (fun _ hk => hk.2.2.2)))) _).trans (((cell_far (p := ⟨gb482, _, none⟩) (by first | exact Kd.own_blk (Kd.R_away HO478.out (fun _ hk => hk.2.2.2)) | (rw [add_block]; exact Kd.own_blk (Kd.R_away HO478.out (fun _ hk => hk.2.2.2))) | (show (Addr.add _ _).block ≠ _; rw [add_block]; exact Kd.own_blk (Kd.R_away HO478.out (fun _ hk => hk.2.2.2))) | (dsimp only; exact Kd.own_blk (Kd.R_away HO478.out (fun _ hk => hk.2.2.2)))) _).trans (((cell_far (p := ⟨gb482, _, none⟩) (by first | exact Kd.own_blk (Kd.R_away HO478.out (fun _ hk => hk.2.2.2)) | (rw [add_block]; exact Kd.own_blk (Kd.R_away HO478.out (fun _ hk => hk.2.2.2))) | (show (Addr.add _ _).block ≠ _; rw [add_block]; exact Kd.own_blk (Kd.R_away HO478.out (fun _ hk => hk.2.2.2))) | (dsimp only; exact Kd.own_blk (Kd.R_away HO478.out (fun _ hk => hk.2.2.2)))) _).trans (hHeld.2.1)))))), ((cell_far (p := ⟨gb482, _, none⟩) (by first | exact Kd.own_blk (Kd.R_away HO478.out (fun _ hk => hk.2.2.2)) | (rw [add_block]; exact Kd.own_blk (Kd.R_away HO478.out (fun _ hk => hk.2.2.2))) | (show (Addr.add _ _).block ≠ _; rw [add_block]; exact Kd.own_blk (Kd.R_away HO478.out (fun _ hk => hk.2.2.2))) | (dsimp only; exact Kd.own_blk (Kd.R_away HO478.out (fun _ hk => hk.2.2.2)))) _).trans (((cell_far (p := ⟨gb482, _, none⟩) (by first | exact Kd.own_blk (Kd.R_away HO478.out (fun _ hk => hk.2.2.2)) | (rw [add_block]; exact Kd.own_blk (Kd.R_away HO478.out (fun _ hk => hk.2.2.2))) | (show (Addr.add _ _).block ≠ _; rw [add_block]; exact Kd.own_blk (Kd.R_away HO478.out (fun _ hk => hk.2.2.2))) | (dsimp only; exact Kd.own_blk (Kd.R_away HO478.out (fun _ hk => hk.2.2.2)))) _).trans (((cell_far (p := ⟨gb482, _, none⟩) (by first | exact Kd.own_blk (Kd.R_away HO478.out (fun _ hk => hk.2.2.2)) | (rw [add_block]; exact Kd.own_blk (Kd.R_away HO478.out (fun _ hk => hk.2.2.2))) | (show (Addr.add _ _).block ≠ _; rw [add_block]; exact Kd.own_blk (Kd.R_away HO478.out (fun _ hk => hk.2.2.2))) | (dsimp only; exact Kd.own_blk (Kd.R_away HO478.out (fun _ hk => hk.2.2.2)))) _).trans (hHeld.2.2.1)))))), ((cell_far (p := ⟨gb482, _, none⟩) (by first | exact Kd.own_blk (Kd.R_away HO478.out (fun _ hk => hk.2.2.2)) | (rw [add_block]; exact Kd.own_blk (Kd.R_away HO478.out (fun _ hk => hk.2.2.2))) | (show (Addr.add _ _).block ≠ _; rw [add_block]; exact Kd.own_blk (Kd.R_away HO478.out (fun _ hk => hk.2.2.2))) | (dsimp only; exact Kd.own_blk (Kd.R_away HO478.out (fun _ hk => hk.2.2.2)))) _).trans (((cell_far (p := ⟨gb482, _, none⟩) (by first | exact Kd.own_blk (Kd.R_away HO478.out (fun _ hk => hk.2.2.2)) | (rw [add_block]; exact Kd.own_blk (Kd.R_away HO478.out (fun _ hk => hk.2.2.2))) | (show (Addr.add _ _).block ≠ _; rw [add_block]; exact Kd.own_blk (Kd.R_away HO478.out (fun _ hk => hk.2.2.2))) | (dsimp only; exact Kd.own_blk (Kd.R_away HO478.out (fun _ hk => hk.2.2.2)))) _).trans (((cell_far (p := ⟨gb482, _, none⟩) (by first | exact Kd.own_blk (Kd.R_away HO478.out (fun _ hk => hk.2.2.2)) | (rw [add_block]; exact Kd.own_blk (Kd.R_away HO478.out (fun _ hk => hk.2.2.2))) | (show (Addr.add _ _).block ≠ _; rw [add_block]; exact Kd.own_blk (Kd.R_away HO478.out (fun _ hk => hk.2.2.2))) | (dsimp only; exact Kd.own_blk (Kd.R_away HO478.out (fun _ hk => hk.2.2.2)))) _).trans (hHeld.2.2.2.1)))))), ((cell_far (p := ⟨gb482, _, none⟩) (by first | exact Kd.own_blk (Kd.R_away HO478.out (fun _ hk => hk.2.2.2)) | (rw [add_block]; exact Kd.own_blk (Kd.R_away HO478.out (fun _ hk => hk.2.2.2))) | (show (Addr.add _ _).block ≠ _; rw [add_block]; exact Kd.own_blk (Kd.R_away HO478.out (fun _ hk => hk.2.2.2))) | (dsimp only; exact Kd.own_blk (Kd.R_away HO478.out (fun _ hk => hk.2.2.2)))) _).trans (((cell_far (p := ⟨gb482, _, none⟩) (by first | exact Kd.own_blk (Kd.R_away HO478.out (fun _ hk => hk.2.2.2)) | (rw [add_block]; exact Kd.own_blk (Kd.R_away HO478.out (fun _ hk => hk.2.2.2))) | (show (Addr.add _ _).block ≠ _; rw [add_block]; exact Kd.own_blk (Kd.R_away HO478.out (fun _ hk => hk.2.2.2))) | (dsimp only; exact Kd.own_blk (Kd.R_away HO478.out (fun _ hk => hk.2.2.2)))) _).trans (((cell_far (p := ⟨gb482, _, none⟩) (by first | exact Kd.own_blk (Kd.R_away HO478.out (fun _ hk => hk.2.2.2)) | (rw [add_block]; exact Kd.own_blk (Kd.R_away HO478.out (fun _ hk => hk.2.2.2))) | (show (Addr.add _ _).block ≠ _; rw [add_block]; exact Kd.own_blk (Kd.R_away HO478.out (fun _ hk => hk.2.2.2))) | (dsimp only; exact Kd.own_blk (Kd.R_away HO478.out (fun _ hk => hk.2.2.2)))) _).trans (hHeld.2.2.2.2.1)))))), ((cell_far (p := ⟨gb482, _, none⟩) (by first | exact Kd.own_blk (Kd.R_away HO478.out (fun _ hk => hk.2.2.2)) | (rw [add_block]; exact Kd.own_blk (Kd.R_away HO478.out (fun _ hk => hk.2.2.2))) | (show (Addr.add _ _).block ≠ _; rw [add_block]; exact Kd.own_blk (Kd.R_away HO478.out (fun _ hk => hk.2.2.2))) | (dsimp only; exact Kd.own_blk (Kd.R_away HO478.out (fun _ hk => hk.2.2.2)))) _).trans (((cell_far (p := ⟨gb482, _, none⟩) (by first | exact Kd.own_blk (Kd.R_away HO478.out (fun _ hk => hk.2.2.2)) | (rw [add_block]; exact Kd.own_blk (Kd.R_away HO478.out (fun _ hk => hk.2.2.2))) | (show (Addr.add _ _).block ≠ _; rw [add_block]; exact Kd.own_blk (Kd.R_away HO478.out (fun _ hk => hk.2.2.2))) | (dsimp only; exact Kd.own_blk (Kd.R_away HO478.out (fun _ hk => hk.2.2.2)))) _).trans (((cell_far (p := ⟨gb482, _, none⟩) (by first | exact Kd.own_blk (Kd.R_away HO478.out (fun _ hk => hk.2.2.2)) | (rw [add_block]; exact Kd.own_blk (Kd.R_away HO478.out (fun _ hk => hk.2.2.2))) | (show (Addr.add _ _).block ≠ _; rw [add_block]; exact Kd.own_blk (Kd.R_away HO478.out (fun _ hk => hk.2.2.2))) | (dsimp only; exact Kd.own_blk (Kd.R_away HO478.out (fun _ hk => hk.2.2.2)))) _).trans (hHeld.2.2.2.2.2))))))⟩ (fun hHeld => ?_)
        clear hK K
        refine done_ (done_of HT_.out (by kernel_rfl)) ?_
        go_upto_region 8 with (fail)
        go_cut [53] (fun v53 wc => ∃ (kq : Nat) (x53_11 : Bool), v53 = .bool x53_11 ∧ Aside0 (chaperonlaw10_ChainFirst.j0 kq t466 t467 t470 x53_11 = some r) ∧ Aside0 (kq ≤ k) ∧ Aside0 (Kd.R k37 37 wc w.heap.size (fun k_ => some k_ ≠ (v471 : Value).ownBlock ∧ k_ ≠ gb481 ∧ k_ ≠ gb482) (.slice Ao15 t467.length co15) t467) ∧ Aside0 (Kd.R k37 37 wc w.heap.size (fun k_ => some k_ ≠ ((.slice Ao15 t467.length co15) : Value).ownBlock ∧ k_ ≠ gb481 ∧ k_ ≠ gb482) v471 t470) ∧ Aside0 (wc.heap[gb481]? = some (.cells #[.bool ((rd_T37 t476 0).f0), .string ((rd_T37 t476 0).f1), .int .i64 ((rd_T37 t476 0).f2)] 37 (0, 0))) ∧ Aside0 (wc.heap[gb482]? = some (.cells #[.bool ((rd_T37 t476 1).f0), .string ((rd_T37 t476 1).f1), .int .i64 ((rd_T37 t476 1).f2)] 37 (0, 0))) ∧ Aside0 (Below w.heap.size w wc))
        case first =>
          have H := HC12.out
          clear HC12
          replace H := Option.bind_eq_some_iff.mp H
          obtain ⟨t483, A320, H⟩ := H
          replace H : ((chaperonlaw10_behind.f k t470 ((rd_T37 t476 0).f0) ((rd_T37 t476 0).f1) ((rd_T37 t476 0).f2) ((rd_T37 t476 1).f0) ((rd_T37 t476 1).f1) ((rd_T37 t476 1).f2)).bind fun t484 => (if t483 = t484 then ((chaperonlaw10_turned.f k t467).bind fun t485 => ((chaperonlaw10_behind.f k t485 ((rd_T37 t476 0).f0) ((rd_T37 t476 0).f1) ((rd_T37 t476 0).f2) ((rd_T37 t476 1).f0) ((rd_T37 t476 1).f1) ((rd_T37 t476 1).f2)).bind fun t488 => ((chaperonlaw10_turned.f k t470).bind fun t489 => ((chaperonlaw10_behind.f k t489 ((rd_T37 t476 0).f0) ((rd_T37 t476 0).f1) ((rd_T37 t476 0).f2) ((rd_T37 t476 1).f0) ((rd_T37 t476 1).f1) ((rd_T37 t476 1).f2)).bind fun t492 => (chaperonlaw10_ChainFirst.j0 k t466 t467 t470 (t488 != t492)))))) else (chaperonlaw10_ChainFirst.j0 k t466 t467 t470 true))) = some r := H
          have A32 := Aside0.mk A320
          clear A320
          replace H := Option.bind_eq_some_iff.mp H
          obtain ⟨t484, A330, H⟩ := H
          replace H : (if t483 = t484 then ((chaperonlaw10_turned.f k t467).bind fun t485 => ((chaperonlaw10_behind.f k t485 ((rd_T37 t476 0).f0) ((rd_T37 t476 0).f1) ((rd_T37 t476 0).f2) ((rd_T37 t476 1).f0) ((rd_T37 t476 1).f1) ((rd_T37 t476 1).f2)).bind fun t488 => ((chaperonlaw10_turned.f k t470).bind fun t489 => ((chaperonlaw10_behind.f k t489 ((rd_T37 t476 0).f0) ((rd_T37 t476 0).f1) ((rd_T37 t476 0).f2) ((rd_T37 t476 1).f0) ((rd_T37 t476 1).f1) ((rd_T37 t476 1).f2)).bind fun t492 => (chaperonlaw10_ChainFirst.j0 k t466 t467 t470 (t488 != t492)))))) else (chaperonlaw10_ChainFirst.j0 k t466 t467 t470 true)) = some r := H
          have A33 := Aside0.mk A330
          clear A330
          by_cases c34 : t483 = t484
          · rw [if_pos c34] at H
            have c34b0 : (t483 == t484) = true := beq_iff_eq.mpr c34
            have c34b1 : (t483 != t484) = false := bne_eq_false_iff_eq.mpr c34
            clear c34
            (first | rw [c34b0] | (simp only [i64_w, i32_w]; rw [c34b0]) | skip)
            replace H := Option.bind_eq_some_iff.mp H
            obtain ⟨t485, A350, H⟩ := H
            replace H : ((chaperonlaw10_behind.f k t485 ((rd_T37 t476 0).f0) ((rd_T37 t476 0).f1) ((rd_T37 t476 0).f2) ((rd_T37 t476 1).f0) ((rd_T37 t476 1).f1) ((rd_T37 t476 1).f2)).bind fun t488 => ((chaperonlaw10_turned.f k t470).bind fun t489 => ((chaperonlaw10_behind.f k t489 ((rd_T37 t476 0).f0) ((rd_T37 t476 0).f1) ((rd_T37 t476 0).f2) ((rd_T37 t476 1).f0) ((rd_T37 t476 1).f1) ((rd_T37 t476 1).f2)).bind fun t492 => (chaperonlaw10_ChainFirst.j0 k t466 t467 t470 (t488 != t492))))) = some r := H
            have A35 := Aside0.mk A350
            clear A350
            replace H := Option.bind_eq_some_iff.mp H
            obtain ⟨t488, A360, H⟩ := H
            replace H : ((chaperonlaw10_turned.f k t470).bind fun t489 => ((chaperonlaw10_behind.f k t489 ((rd_T37 t476 0).f0) ((rd_T37 t476 0).f1) ((rd_T37 t476 0).f2) ((rd_T37 t476 1).f0) ((rd_T37 t476 1).f1) ((rd_T37 t476 1).f2)).bind fun t492 => (chaperonlaw10_ChainFirst.j0 k t466 t467 t470 (t488 != t492)))) = some r := H
            have A36 := Aside0.mk A360
            clear A360
            replace H := Option.bind_eq_some_iff.mp H
            obtain ⟨t489, A370, H⟩ := H
            replace H : ((chaperonlaw10_behind.f k t489 ((rd_T37 t476 0).f0) ((rd_T37 t476 0).f1) ((rd_T37 t476 0).f2) ((rd_T37 t476 1).f0) ((rd_T37 t476 1).f1) ((rd_T37 t476 1).f2)).bind fun t492 => (chaperonlaw10_ChainFirst.j0 k t466 t467 t470 (t488 != t492))) = some r := H
            have A37 := Aside0.mk A370
            clear A370
            replace H := Option.bind_eq_some_iff.mp H
            obtain ⟨t492, A380, H⟩ := H
            replace H : (chaperonlaw10_ChainFirst.j0 k t466 t467 t470 (t488 != t492)) = some r := H
            have A38 := Aside0.mk A380
            clear A380
            have H' := Aside0.mk H
            clear H
            try go_wp2
            have n0_ : Aside0 (Kd.R k37 37 ((((((w25.setCell ⟨gb481, 0, none⟩ (.bool ((rd_T37 t476 0).f0))).setCell ⟨gb481, 1, none⟩ (.string ((rd_T37 t476 0).f1))).setCell ⟨gb481, 2, none⟩ (.int .i64 ((rd_T37 t476 0).f2))).setCell ⟨gb482, 0, none⟩ (.bool ((rd_T37 t476 1).f0))).setCell ⟨gb482, 1, none⟩ (.string ((rd_T37 t476 1).f1))).setCell ⟨gb482, 2, none⟩ (.int .i64 ((rd_T37 t476 1).f2))) w.heap.size (fun k_ => some k_ ≠ (v471 : Value).ownBlock ∧ some k_ ≠ (.slice (some ad479) t476.length co22 : Value).ownBlock ∧ k_ ≠ gb481 ∧ k_ ≠ gb482) (.slice Ao15 t467.length co15) t467) := ⟨by (with_reducible repeat (first | apply Kd.R_alloc | apply Kd.R_drewN | apply Kd.R_drew)); exact Kd.R_mono (Kd.R_far (p := ⟨gb482, 2, none⟩) (Kd.R_far (p := ⟨gb482, 1, none⟩) (Kd.R_far (p := ⟨gb482, 0, none⟩) (Kd.R_far (p := ⟨gb481, 2, none⟩) (Kd.R_far (p := ⟨gb481, 1, none⟩) (Kd.R_far (p := ⟨gb481, 0, none⟩) (Kd.R_mono (Kd.R_mono HO469.out (fun k_ hk => (⟨hk, hk.2.2.1⟩ : _ ∧ k_ ≠ gb481))) (fun k_ hk => (⟨hk, hk.1.2.2.2⟩ : _ ∧ k_ ≠ gb482))) (fun _ hk => hk.1.2) (.bool ((rd_T37 t476 0).f0))) (fun _ hk => hk.1.2) (.string ((rd_T37 t476 0).f1))) (fun _ hk => hk.1.2) (.int .i64 ((rd_T37 t476 0).f2))) (fun _ hk => hk.2) (.bool ((rd_T37 t476 1).f0))) (fun _ hk => hk.2) (.string ((rd_T37 t476 1).f1))) (fun _ hk => hk.2) (.int .i64 ((rd_T37 t476 1).f2))) (fun _ hk => ⟨hk.1.1.1, ⟨hk.1.1.2.1, ⟨hk.1.1.2.2.1, hk.1.1.2.2.2⟩⟩⟩)⟩
            have n1_ : Aside0 (Kd.R k37 37 ((((((w25.setCell ⟨gb481, 0, none⟩ (.bool ((rd_T37 t476 0).f0))).setCell ⟨gb481, 1, none⟩ (.string ((rd_T37 t476 0).f1))).setCell ⟨gb481, 2, none⟩ (.int .i64 ((rd_T37 t476 0).f2))).setCell ⟨gb482, 0, none⟩ (.bool ((rd_T37 t476 1).f0))).setCell ⟨gb482, 1, none⟩ (.string ((rd_T37 t476 1).f1))).setCell ⟨gb482, 2, none⟩ (.int .i64 ((rd_T37 t476 1).f2))) w.heap.size (fun k_ => some k_ ≠ (.slice Ao15 t467.length co15 : Value).ownBlock ∧ some k_ ≠ (.slice (some ad479) t476.length co22 : Value).ownBlock ∧ k_ ≠ gb481 ∧ k_ ≠ gb482) v471 t470) := ⟨by (with_reducible repeat (first | apply Kd.R_alloc | apply Kd.R_drewN | apply Kd.R_drew)); exact Kd.R_mono (Kd.R_far (p := ⟨gb482, 2, none⟩) (Kd.R_far (p := ⟨gb482, 1, none⟩) (Kd.R_far (p := ⟨gb482, 0, none⟩) (Kd.R_far (p := ⟨gb481, 2, none⟩) (Kd.R_far (p := ⟨gb481, 1, none⟩) (Kd.R_far (p := ⟨gb481, 0, none⟩) (Kd.R_mono (Kd.R_mono HO472.out (fun k_ hk => (⟨hk, hk.2.2.1⟩ : _ ∧ k_ ≠ gb481))) (fun k_ hk => (⟨hk, hk.1.2.2.2⟩ : _ ∧ k_ ≠ gb482))) (fun _ hk => hk.1.2) (.bool ((rd_T37 t476 0).f0))) (fun _ hk => hk.1.2) (.string ((rd_T37 t476 0).f1))) (fun _ hk => hk.1.2) (.int .i64 ((rd_T37 t476 0).f2))) (fun _ hk => hk.2) (.bool ((rd_T37 t476 1).f0))) (fun _ hk => hk.2) (.string ((rd_T37 t476 1).f1))) (fun _ hk => hk.2) (.int .i64 ((rd_T37 t476 1).f2))) (fun _ hk => ⟨hk.1.1.1, ⟨hk.1.1.2.1, ⟨hk.1.1.2.2.1, hk.1.1.2.2.2⟩⟩⟩)⟩
            have n2_ : Aside0 (Kd.R (Kd.int .i64) 3 ((((((w25.setCell ⟨gb481, 0, none⟩ (.bool ((rd_T37 t476 0).f0))).setCell ⟨gb481, 1, none⟩ (.string ((rd_T37 t476 0).f1))).setCell ⟨gb481, 2, none⟩ (.int .i64 ((rd_T37 t476 0).f2))).setCell ⟨gb482, 0, none⟩ (.bool ((rd_T37 t476 1).f0))).setCell ⟨gb482, 1, none⟩ (.string ((rd_T37 t476 1).f1))).setCell ⟨gb482, 2, none⟩ (.int .i64 ((rd_T37 t476 1).f2))) w.heap.size (fun _ => True) (.slice Ao19 y473.length co19) y473) := ⟨by (with_reducible repeat (first | apply Kd.R_alloc | apply Kd.R_drewN | apply Kd.R_drew)); exact Kd.R_mono (Kd.R_far (p := ⟨gb482, 2, none⟩) (Kd.R_far (p := ⟨gb482, 1, none⟩) (Kd.R_far (p := ⟨gb482, 0, none⟩) (Kd.R_far (p := ⟨gb481, 2, none⟩) (Kd.R_far (p := ⟨gb481, 1, none⟩) (Kd.R_far (p := ⟨gb481, 0, none⟩) (Kd.R_types (Kd.R_types HO475.out BK481.out (by decide)) BK482.out (by decide)) (fun _ hk => hk.1.2) (.bool ((rd_T37 t476 0).f0))) (fun _ hk => hk.1.2) (.string ((rd_T37 t476 0).f1))) (fun _ hk => hk.1.2) (.int .i64 ((rd_T37 t476 0).f2))) (fun _ hk => hk.2) (.bool ((rd_T37 t476 1).f0))) (fun _ hk => hk.2) (.string ((rd_T37 t476 1).f1))) (fun _ hk => hk.2) (.int .i64 ((rd_T37 t476 1).f2))) (fun _ hk => trivial)⟩
            have n3_ : Aside0 (Kd.R k37 37 ((((((w25.setCell ⟨gb481, 0, none⟩ (.bool ((rd_T37 t476 0).f0))).setCell ⟨gb481, 1, none⟩ (.string ((rd_T37 t476 0).f1))).setCell ⟨gb481, 2, none⟩ (.int .i64 ((rd_T37 t476 0).f2))).setCell ⟨gb482, 0, none⟩ (.bool ((rd_T37 t476 1).f0))).setCell ⟨gb482, 1, none⟩ (.string ((rd_T37 t476 1).f1))).setCell ⟨gb482, 2, none⟩ (.int .i64 ((rd_T37 t476 1).f2))) w.heap.size (fun k_ => some k_ ≠ (.slice Ao15 t467.length co15 : Value).ownBlock ∧ some k_ ≠ (v471 : Value).ownBlock ∧ k_ ≠ gb481 ∧ k_ ≠ gb482) (.slice (some ad479) t476.length co22) t476) := ⟨by (with_reducible repeat (first | apply Kd.R_alloc | apply Kd.R_drewN | apply Kd.R_drew)); exact Kd.R_mono (Kd.R_far (p := ⟨gb482, 2, none⟩) (Kd.R_far (p := ⟨gb482, 1, none⟩) (Kd.R_far (p := ⟨gb482, 0, none⟩) (Kd.R_far (p := ⟨gb481, 2, none⟩) (Kd.R_far (p := ⟨gb481, 1, none⟩) (Kd.R_far (p := ⟨gb481, 0, none⟩) (Kd.R_mono (Kd.R_mono HO478.out (fun k_ hk => (⟨hk, hk.2.2.1⟩ : _ ∧ k_ ≠ gb481))) (fun k_ hk => (⟨hk, hk.1.2.2.2⟩ : _ ∧ k_ ≠ gb482))) (fun _ hk => hk.1.2) (.bool ((rd_T37 t476 0).f0))) (fun _ hk => hk.1.2) (.string ((rd_T37 t476 0).f1))) (fun _ hk => hk.1.2) (.int .i64 ((rd_T37 t476 0).f2))) (fun _ hk => hk.2) (.bool ((rd_T37 t476 1).f0))) (fun _ hk => hk.2) (.string ((rd_T37 t476 1).f1))) (fun _ hk => hk.2) (.int .i64 ((rd_T37 t476 1).f2))) (fun _ hk => ⟨hk.1.1.1, ⟨hk.1.1.2.1, ⟨hk.1.1.2.2.1, hk.1.1.2.2.2⟩⟩⟩)⟩
            have n4_ : Aside0 (((((((w25.setCell ⟨gb481, 0, none⟩ (.bool ((rd_T37 t476 0).f0))).setCell ⟨gb481, 1, none⟩ (.string ((rd_T37 t476 0).f1))).setCell ⟨gb481, 2, none⟩ (.int .i64 ((rd_T37 t476 0).f2))).setCell ⟨gb482, 0, none⟩ (.bool ((rd_T37 t476 1).f0))).setCell ⟨gb482, 1, none⟩ (.string ((rd_T37 t476 1).f1))).setCell ⟨gb482, 2, none⟩ (.int .i64 ((rd_T37 t476 1).f2))).heap[gb481]? = some (.cells #[.bool ((rd_T37 t476 0).f0), .string ((rd_T37 t476 0).f1), .int .i64 ((rd_T37 t476 0).f2)] 37 (0, 0))) := ⟨by (with_reducible repeat (first | refine blk_drewN ?_ _ | refine blk_drew ?_ | refine blk_alloc ?_ _)); refine blk_far ?_ NB481_482.out _; (with_reducible repeat (first | refine blk_drewN ?_ _ | refine blk_drew ?_ | refine blk_alloc ?_ _)); refine blk_far ?_ NB481_482.out _; (with_reducible repeat (first | refine blk_drewN ?_ _ | refine blk_drew ?_ | refine blk_alloc ?_ _)); refine blk_far ?_ NB481_482.out _; (with_reducible repeat (first | refine blk_drewN ?_ _ | refine blk_drew ?_ | refine blk_alloc ?_ _)); refine blk_put (cs := #[.bool ((rd_T37 t476 0).f0), .string ((rd_T37 t476 0).f1), .int .i64 0]) ?_ 2 _ rfl; (with_reducible repeat (first | refine blk_drewN ?_ _ | refine blk_drew ?_ | refine blk_alloc ?_ _)); refine blk_put (cs := #[.bool ((rd_T37 t476 0).f0), .string (⟨#[]⟩ : ByteArray), .int .i64 0]) ?_ 1 _ rfl; (with_reducible repeat (first | refine blk_drewN ?_ _ | refine blk_drew ?_ | refine blk_alloc ?_ _)); refine blk_put (cs := #[.bool false, .string (⟨#[]⟩ : ByteArray), .int .i64 0]) ?_ 0 _ rfl; (with_reducible repeat (first | refine blk_drewN ?_ _ | refine blk_drew ?_ | refine blk_alloc ?_ _)); exact BK481.out⟩
            have n5_ : Aside0 (((((((w25.setCell ⟨gb481, 0, none⟩ (.bool ((rd_T37 t476 0).f0))).setCell ⟨gb481, 1, none⟩ (.string ((rd_T37 t476 0).f1))).setCell ⟨gb481, 2, none⟩ (.int .i64 ((rd_T37 t476 0).f2))).setCell ⟨gb482, 0, none⟩ (.bool ((rd_T37 t476 1).f0))).setCell ⟨gb482, 1, none⟩ (.string ((rd_T37 t476 1).f1))).setCell ⟨gb482, 2, none⟩ (.int .i64 ((rd_T37 t476 1).f2))).heap[gb482]? = some (.cells #[.bool ((rd_T37 t476 1).f0), .string ((rd_T37 t476 1).f1), .int .i64 ((rd_T37 t476 1).f2)] 37 (0, 0))) := ⟨by (with_reducible repeat (first | refine blk_drewN ?_ _ | refine blk_drew ?_ | refine blk_alloc ?_ _)); refine blk_put (cs := #[.bool ((rd_T37 t476 1).f0), .string ((rd_T37 t476 1).f1), .int .i64 0]) ?_ 2 _ rfl; (with_reducible repeat (first | refine blk_drewN ?_ _ | refine blk_drew ?_ | refine blk_alloc ?_ _)); refine blk_put (cs := #[.bool ((rd_T37 t476 1).f0), .string (⟨#[]⟩ : ByteArray), .int .i64 0]) ?_ 1 _ rfl; (with_reducible repeat (first | refine blk_drewN ?_ _ | refine blk_drew ?_ | refine blk_alloc ?_ _)); refine blk_put (cs := #[.bool false, .string (⟨#[]⟩ : ByteArray), .int .i64 0]) ?_ 0 _ rfl; (with_reducible repeat (first | refine blk_drewN ?_ _ | refine blk_drew ?_ | refine blk_alloc ?_ _)); refine blk_far ?_ NB482_481.out _; (with_reducible repeat (first | refine blk_drewN ?_ _ | refine blk_drew ?_ | refine blk_alloc ?_ _)); refine blk_far ?_ NB482_481.out _; (with_reducible repeat (first | refine blk_drewN ?_ _ | refine blk_drew ?_ | refine blk_alloc ?_ _)); refine blk_far ?_ NB482_481.out _; (with_reducible repeat (first | refine blk_drewN ?_ _ | refine blk_drew ?_ | refine blk_alloc ?_ _)); exact BK482.out⟩
            have n6_ : Aside0 (Below w.heap.size w ((((((w25.setCell ⟨gb481, 0, none⟩ (.bool ((rd_T37 t476 0).f0))).setCell ⟨gb481, 1, none⟩ (.string ((rd_T37 t476 0).f1))).setCell ⟨gb481, 2, none⟩ (.int .i64 ((rd_T37 t476 0).f2))).setCell ⟨gb482, 0, none⟩ (.bool ((rd_T37 t476 1).f0))).setCell ⟨gb482, 1, none⟩ (.string ((rd_T37 t476 1).f1))).setCell ⟨gb482, 2, none⟩ (.int .i64 ((rd_T37 t476 1).f2)))) := ⟨by repeat (first | (with_reducible first | exact HB.out | apply below_alloc | apply pw_below_drewN | apply below_drew1 | refine below_set ?_ GE481.out | refine below_set ?_ GE482.out) | exact HB.out)⟩
            (try clear HO469)
            (try clear HO472)
            (try clear HO475)
            (try clear HO478)
            (try clear BK481)
            (try clear BK482)
            (try clear HB)
            generalize ((((((w25.setCell ⟨gb481, 0, none⟩ (.bool ((rd_T37 t476 0).f0))).setCell ⟨gb481, 1, none⟩ (.string ((rd_T37 t476 0).f1))).setCell ⟨gb481, 2, none⟩ (.int .i64 ((rd_T37 t476 0).f2))).setCell ⟨gb482, 0, none⟩ (.bool ((rd_T37 t476 1).f0))).setCell ⟨gb482, 1, none⟩ (.string ((rd_T37 t476 1).f1))).setCell ⟨gb482, 2, none⟩ (.int .i64 ((rd_T37 t476 1).f2))) = w39 at n0_ n1_ n2_ n3_ n4_ n5_ n6_ ⊢
            have HO469 := n0_
            have HO472 := n1_
            have HO475 := n2_
            have HO478 := n3_
            have BK481 := n4_
            have BK482 := n5_
            have HB := n6_
            clear n0_ n1_ n2_ n3_ n4_ n5_ n6_
            have n0_ := Aside0.mk (Kd.R_drew HO469.out)
            have n1_ := Aside0.mk (Kd.R_drew HO472.out)
            have n2_ := Aside0.mk (Kd.R_drew HO475.out)
            have n3_ := Aside0.mk (Kd.R_drew HO478.out)
            have n4_ := Aside0.mk (blk_drew BK481.out)
            have n5_ := Aside0.mk (blk_drew BK482.out)
            have n6_ := Aside0.mk (below_drew1 HB.out)
            clear HO469
            clear HO472
            clear HO475
            clear HO478
            clear BK481
            clear BK482
            clear HB
            have HO469 := n0_
            have HO472 := n1_
            have HO475 := n2_
            have HO478 := n3_
            have BK481 := n4_
            have BK482 := n5_
            have HB := n6_
            clear n0_ n1_ n2_ n3_ n4_ n5_ n6_
            refine start_ (n := 22) (S := fun w' => w'.cell? ⟨gb481, 0, none⟩ = some (.bool ((rd_T37 t476 0).f0)) ∧ w'.cell? ⟨gb481, 1, none⟩ = some (.string ((rd_T37 t476 0).f1)) ∧ w'.cell? ⟨gb481, 2, none⟩ = some (.int .i64 ((rd_T37 t476 0).f2)) ∧ w'.cell? ⟨gb482, 0, none⟩ = some (.bool ((rd_T37 t476 1).f0)) ∧ w'.cell? ⟨gb482, 1, none⟩ = some (.string ((rd_T37 t476 1).f1)) ∧ w'.cell? ⟨gb482, 2, none⟩ = some (.int .i64 ((rd_T37 t476 1).f2))) (ds := []) #[false, false, false, false, false, false, false, false, false, false, false, false, false, false, false, false, false, false, false, false, false, false] (by kernel_rfl) rfl rfl ⟨(blk_cell BK481.out 0).trans rfl, (blk_cell BK481.out 1).trans rfl, (blk_cell BK481.out 2).trans rfl, (blk_cell BK482.out 0).trans rfl, (blk_cell BK482.out 1).trans rfl, (blk_cell BK482.out 2).trans rfl⟩ (fun hHeld => ?_); refine with_tabW chaperonlaw10_ChainFirst.tab8 chaperonlaw10_ChainFirst.bits8 (fun HT_ HW_ => ?_)
            generalize w39.drew = w40 at HO469 HO472 HO475 HO478 BK481 BK482 HB hHeld ⊢
            refine pure_ (i := 0) (N := some 32) (v := ?_) (a' := ?_) #[true, false, false, false, false, false, false, false, false, false, false, false, false, false, false, false, false, false, false, false, false, false] rfl rfl (any_of HT_.out (by kernel_rfl)) (fun _ _ _ h => h) (Or.inl ⟨by rfl, ?_⟩) ?_ ?_
            rotate_left
            · intro w'
              go_simp
              with_reducible rfl
            rotate_left
            · simp only [Act.put, List.setIfInBounds_toArray, List.set_cons_zero, List.set_cons_succ, i64_w, i32_w]
              rfl
            refine pure_ (i := 4) (N := some 36) (v := ?_) (a' := ?_) #[true, false, false, false, true, false, false, false, false, false, false, false, false, false, false, false, false, false, false, false, false, false] rfl rfl (any_of HT_.out (by kernel_rfl)) (fun _ _ _ h => h) (Or.inl ⟨by rfl, ?_⟩) ?_ ?_
            rotate_left
            · intro w'
              go_simp
              with_reducible rfl
            rotate_left
            · simp only [Act.put, List.setIfInBounds_toArray, List.set_cons_zero, List.set_cons_succ, i64_w, i32_w]
              rfl
            refine take_ (i := 1) (N := some 33) (v := ?_) (a' := ?_) #[true, true, false, false, true, false, false, false, false, false, false, false, false, false, false, false, false, false, false, false, false, false] rfl rfl (take_ofW HT_.out HW_.out (by kernel_rfl)) (fun _ _ _ h => h) (Or.inl ⟨by rfl, ?_⟩) hHeld ?_ ?_
            rotate_left
            · rintro w' ⟨s0, s1, s2, s3, s4, s5⟩
              go_simp
              with_reducible rfl
            rotate_left
            · simp only [Act.put, List.setIfInBounds_toArray, List.set_cons_zero, List.set_cons_succ, i64_w, i32_w]
              rfl
            refine take_ (i := 2) (N := some 34) (v := ?_) (a' := ?_) #[true, true, true, false, true, false, false, false, false, false, false, false, false, false, false, false, false, false, false, false, false, false] rfl rfl (take_ofW HT_.out HW_.out (by kernel_rfl)) (fun _ _ _ h => h) (Or.inl ⟨by rfl, ?_⟩) hHeld ?_ ?_
            rotate_left
            · rintro w' ⟨s0, s1, s2, s3, s4, s5⟩
              go_simp
              with_reducible rfl
            rotate_left
            · simp only [Act.put, List.setIfInBounds_toArray, List.set_cons_zero, List.set_cons_succ, i64_w, i32_w]
              rfl
            refine take_ (i := 5) (N := some 37) (v := ?_) (a' := ?_) #[true, true, true, false, true, true, false, false, false, false, false, false, false, false, false, false, false, false, false, false, false, false] rfl rfl (take_ofW HT_.out HW_.out (by kernel_rfl)) (fun _ _ _ h => h) (Or.inl ⟨by rfl, ?_⟩) hHeld ?_ ?_
            rotate_left
            · rintro w' ⟨s0, s1, s2, s3, s4, s5⟩
              go_simp
              with_reducible rfl
            rotate_left
            · simp only [Act.put, List.setIfInBounds_toArray, List.set_cons_zero, List.set_cons_succ, i64_w, i32_w]
              rfl
            refine take_ (i := 6) (N := some 38) (v := ?_) (a' := ?_) #[true, true, true, false, true, true, true, false, false, false, false, false, false, false, false, false, false, false, false, false, false, false] rfl rfl (take_ofW HT_.out HW_.out (by kernel_rfl)) (fun _ _ _ h => h) (Or.inl ⟨by rfl, ?_⟩) hHeld ?_ ?_
            rotate_left
            · rintro w' ⟨s0, s1, s2, s3, s4, s5⟩
              go_simp
              with_reducible rfl
            rotate_left
            · simp only [Act.put, List.setIfInBounds_toArray, List.set_cons_zero, List.set_cons_succ, i64_w, i32_w]
              rfl
            refine one_ (i := 3) (N := some 35) #[true, true, true, true, true, true, true, false, false, false, false, false, false, false, false, false, false, false, false, false, false, false] rfl rfl (one_of HT_.out (by kernel_rfl)) (by decide) (fun K hK => ?_)
            refine goes_ Try.func34 (by kernel_rfl) rfl #[.slice Ao15 t467.length co15, .agg #[.bool ((rd_T37 t476 0).f0), .string ((rd_T37 t476 0).f1), .int .i64 ((rd_T37 t476 0).f2)], .agg #[.bool ((rd_T37 t476 1).f0), .string ((rd_T37 t476 1).f1), .int .i64 ((rd_T37 t476 1).f2)]] (by rfl) rfl rfl (by (try simp only [List.map_toArray, List.map_cons, List.map_nil]); first | done | rfl | (simp only [List.length_drop, List.length_take]; rfl)) ?_
            with_reducible refine (chaperonlaw10_behind.calls k _ _ t467 ((rd_T37 t476 0).f0) ((rd_T37 t476 0).f1) ((rd_T37 t476 0).f2) ((rd_T37 t476 1).f0) ((rd_T37 t476 1).f1) ((rd_T37 t476 1).f2) t483 _ ?side1 ?side2 A32.out).mono ?_
            (case side1 => repeat (first | exact (Kd.R_reads' HO469.out).2.2 | (with_reducible refine Kd.C_alloc ?_ _) | (with_reducible refine Kd.C_drewN ?_ _) | (with_reducible refine Kd.C_drew ?_)))
            (case side2 => exact (Kd.R_reads' HO469.out).2.1)
            rintro e w41 ⟨rfl, hb⟩
            refine ⟨_, rfl, ?_⟩
            have n0_ := Aside0.mk (Kd.R_below (by (with_reducible repeat (first | apply Kd.R_alloc | apply Kd.R_drewN | apply Kd.R_drew)); exact HO469.out) hb)
            have n1_ := Aside0.mk (Kd.R_below (by (with_reducible repeat (first | apply Kd.R_alloc | apply Kd.R_drewN | apply Kd.R_drew)); exact HO472.out) hb)
            have n2_ := Aside0.mk (Kd.R_below (by (with_reducible repeat (first | apply Kd.R_alloc | apply Kd.R_drewN | apply Kd.R_drew)); exact HO475.out) hb)
            have n3_ := Aside0.mk (Kd.R_below (by (with_reducible repeat (first | apply Kd.R_alloc | apply Kd.R_drewN | apply Kd.R_drew)); exact HO478.out) hb)
            have n4_ := Aside0.mk (blk_below (g := gb481) (o := .cells #[.bool ((rd_T37 t476 0).f0), .string ((rd_T37 t476 0).f1), .int .i64 ((rd_T37 t476 0).f2)] 37 (0, 0)) (by (with_reducible repeat (first | refine blk_drewN ?_ _ | refine blk_drew ?_ | refine blk_alloc ?_ _)); exact BK481.out) hb)
            have n5_ := Aside0.mk (blk_below (g := gb482) (o := .cells #[.bool ((rd_T37 t476 1).f0), .string ((rd_T37 t476 1).f1), .int .i64 ((rd_T37 t476 1).f2)] 37 (0, 0)) (by (with_reducible repeat (first | refine blk_drewN ?_ _ | refine blk_drew ?_ | refine blk_alloc ?_ _)); exact BK482.out) hb)
            have n6_ := Aside0.mk (below_step (by repeat (first | (with_reducible first | exact HB.out | apply below_alloc | apply pw_below_drewN | apply below_drew1 | refine below_set ?_ GE481.out | refine below_set ?_ GE482.out) | exact HB.out)) hb)
            clear HO469
            clear HO472
            clear HO475
            clear HO478
            clear BK481
            clear BK482
            clear HB
            have HO469 := n0_
            have HO472 := n1_
            have HO475 := n2_
            have HO478 := n3_
            have BK481 := n4_
            have BK482 := n5_
            have HB := n6_
            clear n0_ n1_ n2_ n3_ n4_ n5_ n6_
            (try clear hb)
            (try clear hb2)
            (try clear hk)
            (try clear hi)
            obtain ⟨Ao42, co42, eo42⟩ := Kd.R_slice HO472.out
            (first | subst eo42 | (injection eo42 with f1_ f2_ f3_; have f4_ := f1_.symm; have f5_ := f3_.symm; clear f1_ f2_ f3_; subst f4_; subst f5_))
            refine hK.out _ _ ⟨(blk_cell BK481.out 0).trans rfl, (blk_cell BK481.out 1).trans rfl, (blk_cell BK481.out 2).trans rfl, (blk_cell BK482.out 0).trans rfl, (blk_cell BK482.out 1).trans rfl, (blk_cell BK482.out 2).trans rfl⟩ (fun hHeld => ?_)
            clear hK K
            refine norm_ (a' := ?_) ?_ ?_
            rotate_left
            · show Act.put _ (some 35) _ = _
              simp only [Act.put, List.setIfInBounds_toArray, List.set_cons_zero, List.set_cons_succ, i64_w, i32_w]
              rfl
            refine one_ (i := 7) (N := some 39) #[true, true, true, true, true, true, true, true, false, false, false, false, false, false, false, false, false, false, false, false, false, false] rfl rfl (one_of HT_.out (by kernel_rfl)) (by decide) (fun K hK => ?_)
            refine goes_ Try.func34 (by kernel_rfl) rfl #[.slice Ao42 t470.length co42, .agg #[.bool ((rd_T37 t476 0).f0), .string ((rd_T37 t476 0).f1), .int .i64 ((rd_T37 t476 0).f2)], .agg #[.bool ((rd_T37 t476 1).f0), .string ((rd_T37 t476 1).f1), .int .i64 ((rd_T37 t476 1).f2)]] (by rfl) rfl rfl (by (try simp only [List.map_toArray, List.map_cons, List.map_nil]); first | done | rfl | (simp only [List.length_drop, List.length_take]; rfl)) ?_
            with_reducible refine (chaperonlaw10_behind.calls k _ _ t470 ((rd_T37 t476 0).f0) ((rd_T37 t476 0).f1) ((rd_T37 t476 0).f2) ((rd_T37 t476 1).f0) ((rd_T37 t476 1).f1) ((rd_T37 t476 1).f2) t484 _ ?side1 ?side2 A33.out).mono ?_
            (case side1 => repeat (first | exact (Kd.R_reads' HO472.out).2.2 | (with_reducible refine Kd.C_alloc ?_ _) | (with_reducible refine Kd.C_drewN ?_ _) | (with_reducible refine Kd.C_drew ?_)))
            (case side2 => exact (Kd.R_reads' HO472.out).2.1)
            rintro e w43 ⟨rfl, hb⟩
            refine ⟨_, rfl, ?_⟩
            have n0_ := Aside0.mk (Kd.R_below (by (with_reducible repeat (first | apply Kd.R_alloc | apply Kd.R_drewN | apply Kd.R_drew)); exact HO469.out) hb)
            have n1_ := Aside0.mk (Kd.R_below (by (with_reducible repeat (first | apply Kd.R_alloc | apply Kd.R_drewN | apply Kd.R_drew)); exact HO472.out) hb)
            have n2_ := Aside0.mk (Kd.R_below (by (with_reducible repeat (first | apply Kd.R_alloc | apply Kd.R_drewN | apply Kd.R_drew)); exact HO475.out) hb)
            have n3_ := Aside0.mk (Kd.R_below (by (with_reducible repeat (first | apply Kd.R_alloc | apply Kd.R_drewN | apply Kd.R_drew)); exact HO478.out) hb)
            have n4_ := Aside0.mk (blk_below (g := gb481) (o := .cells #[.bool ((rd_T37 t476 0).f0), .string ((rd_T37 t476 0).f1), .int .i64 ((rd_T37 t476 0).f2)] 37 (0, 0)) (by (with_reducible repeat (first | refine blk_drewN ?_ _ | refine blk_drew ?_ | refine blk_alloc ?_ _)); exact BK481.out) hb)
            have n5_ := Aside0.mk (blk_below (g := gb482) (o := .cells #[.bool ((rd_T37 t476 1).f0), .string ((rd_T37 t476 1).f1), .int .i64 ((rd_T37 t476 1).f2)] 37 (0, 0)) (by (with_reducible repeat (first | refine blk_drewN ?_ _ | refine blk_drew ?_ | refine blk_alloc ?_ _)); exact BK482.out) hb)
            have n6_ := Aside0.mk (below_step (by repeat (first | (with_reducible first | exact HB.out | apply below_alloc | apply pw_below_drewN | apply below_drew1 | refine below_set ?_ GE481.out | refine below_set ?_ GE482.out) | exact HB.out)) hb)
            clear HO469
            clear HO472
            clear HO475
            clear HO478
            clear BK481
            clear BK482
            clear HB
            have HO469 := n0_
            have HO472 := n1_
            have HO475 := n2_
            have HO478 := n3_
            have BK481 := n4_
            have BK482 := n5_
            have HB := n6_
            clear n0_ n1_ n2_ n3_ n4_ n5_ n6_
            (try clear hb)
            (try clear hb2)
            (try clear hk)
            (try clear hi)
            refine hK.out _ _ ⟨(blk_cell BK481.out 0).trans rfl, (blk_cell BK481.out 1).trans rfl, (blk_cell BK481.out 2).trans rfl, (blk_cell BK482.out 0).trans rfl, (blk_cell BK482.out 1).trans rfl, (blk_cell BK482.out 2).trans rfl⟩ (fun hHeld => ?_)
            clear hK K
            refine norm_ (a' := ?_) ?_ ?_
            rotate_left
            · show Act.put _ (some 39) _ = _
              simp only [Act.put, List.setIfInBounds_toArray, List.set_cons_zero, List.set_cons_succ, i64_w, i32_w]
              rfl
            refine pure_ (i := 8) (N := some 40) (v := ?_) (a' := ?_) #[true, true, true, true, true, true, true, true, true, false, false, false, false, false, false, false, false, false, false, false, false, false] rfl rfl (any_of HT_.out (by kernel_rfl)) (fun _ _ _ h => h) (Or.inl ⟨by rfl, ?_⟩) ?_ ?_
            rotate_left
            · intro w'
              go_simp
              with_reducible rfl
            rotate_left
            · simp only [Act.put, List.setIfInBounds_toArray, List.set_cons_zero, List.set_cons_succ, i64_w, i32_w]
              rfl
            refine pure_ (i := 9) (N := some 41) (v := ?_) (a' := ?_) #[true, true, true, true, true, true, true, true, true, true, false, false, false, false, false, false, false, false, false, false, false, false] rfl rfl (any_of HT_.out (by kernel_rfl)) (fun _ _ _ h => h) (Or.inl ⟨by rfl, ?_⟩) ?_ ?_
            rotate_left
            · intro w'
              go_simp
              with_reducible rfl
            rotate_left
            · simp only [Act.put, List.setIfInBounds_toArray, List.set_cons_zero, List.set_cons_succ, i64_w, i32_w]
              rfl
            refine pure_ (i := 10) (N := some 42) (v := ?_) (a' := ?_) #[true, true, true, true, true, true, true, true, true, true, true, false, false, false, false, false, false, false, false, false, false, false] rfl rfl (any_of HT_.out (by kernel_rfl)) (fun _ _ _ h => h) (Or.inl ⟨by rfl, ?_⟩) ?_ ?_
            rotate_left
            · intro w'
              go_simp
              with_reducible rfl
            rotate_left
            · simp only [Act.put, List.setIfInBounds_toArray, List.set_cons_zero, List.set_cons_succ, i64_w, i32_w]
              rfl
            refine pure_ (i := 15) (N := some 47) (v := ?_) (a' := ?_) #[true, true, true, true, true, true, true, true, true, true, true, false, false, false, false, true, false, false, false, false, false, false] rfl rfl (any_of HT_.out (by kernel_rfl)) (fun _ _ _ h => h) (Or.inl ⟨by rfl, ?_⟩) ?_ ?_
            rotate_left
            · intro w'
              go_simp
              with_reducible rfl
            rotate_left
            · simp only [Act.put, List.setIfInBounds_toArray, List.set_cons_zero, List.set_cons_succ, i64_w, i32_w]
              rfl
            refine take_ (i := 12) (N := some 44) (v := ?_) (a' := ?_) #[true, true, true, true, true, true, true, true, true, true, true, false, true, false, false, true, false, false, false, false, false, false] rfl rfl (take_ofW HT_.out HW_.out (by kernel_rfl)) (fun _ _ _ h => h) (Or.inl ⟨by rfl, ?_⟩) hHeld ?_ ?_
            rotate_left
            · rintro w' ⟨s0, s1, s2, s3, s4, s5⟩
              go_simp
              with_reducible rfl
            rotate_left
            · simp only [Act.put, List.setIfInBounds_toArray, List.set_cons_zero, List.set_cons_succ, i64_w, i32_w]
              rfl
            refine take_ (i := 13) (N := some 45) (v := ?_) (a' := ?_) #[true, true, true, true, true, true, true, true, true, true, true, false, true, true, false, true, false, false, false, false, false, false] rfl rfl (take_ofW HT_.out HW_.out (by kernel_rfl)) (fun _ _ _ h => h) (Or.inl ⟨by rfl, ?_⟩) hHeld ?_ ?_
            rotate_left
            · rintro w' ⟨s0, s1, s2, s3, s4, s5⟩
              go_simp
              with_reducible rfl
            rotate_left
            · simp only [Act.put, List.setIfInBounds_toArray, List.set_cons_zero, List.set_cons_succ, i64_w, i32_w]
              rfl
            refine take_ (i := 17) (N := some 49) (v := ?_) (a' := ?_) #[true, true, true, true, true, true, true, true, true, true, true, false, true, true, false, true, false, true, false, false, false, false] rfl rfl (take_ofW HT_.out HW_.out (by kernel_rfl)) (fun _ _ _ h => h) (Or.inl ⟨by rfl, ?_⟩) hHeld ?_ ?_
            rotate_left
            · rintro w' ⟨s0, s1, s2, s3, s4, s5⟩
              go_simp
              with_reducible rfl
            rotate_left
            · simp only [Act.put, List.setIfInBounds_toArray, List.set_cons_zero, List.set_cons_succ, i64_w, i32_w]
              rfl
            refine take_ (i := 18) (N := some 50) (v := ?_) (a' := ?_) #[true, true, true, true, true, true, true, true, true, true, true, false, true, true, false, true, false, true, true, false, false, false] rfl rfl (take_ofW HT_.out HW_.out (by kernel_rfl)) (fun _ _ _ h => h) (Or.inl ⟨by rfl, ?_⟩) hHeld ?_ ?_
            rotate_left
            · rintro w' ⟨s0, s1, s2, s3, s4, s5⟩
              go_simp
              with_reducible rfl
            rotate_left
            · simp only [Act.put, List.setIfInBounds_toArray, List.set_cons_zero, List.set_cons_succ, i64_w, i32_w]
              rfl
            refine one_ (i := 11) (N := some 43) #[true, true, true, true, true, true, true, true, true, true, true, true, true, true, false, true, false, true, true, false, false, false] rfl rfl (one_of HT_.out (by kernel_rfl)) (by decide) (fun K hK => ?_)
            refine goes_ Try.func35 (by kernel_rfl) rfl #[.slice Ao15 t467.length co15] (by rfl) rfl rfl (by (try simp only [List.map_toArray, List.map_cons, List.map_nil]); first | done | rfl | (simp only [List.length_drop, List.length_take]; rfl)) ?_
            with_reducible refine (chaperonlaw10_turned.calls k _ _ t467 t485 _ ?side1 ?side2 A35.out).mono ?_
            (case side1 => repeat (first | exact (Kd.R_reads' HO469.out).2.2 | (with_reducible refine Kd.C_alloc ?_ _) | (with_reducible refine Kd.C_drewN ?_ _) | (with_reducible refine Kd.C_drew ?_)))
            (case side2 => exact (Kd.R_reads' HO469.out).2.1)
            rintro e w44 ⟨v486, rfl, ho0, hb⟩
            refine ⟨_, rfl, ?_⟩
            have n0_ := Aside0.mk (Kd.R_elder' (by (with_reducible repeat (first | apply Kd.R_alloc | apply Kd.R_drewN | apply Kd.R_drew)); exact HO469.out) (Kd.R_base ho0) hb)
            have n1_ := Aside0.mk (Kd.R_elder' (by (with_reducible repeat (first | apply Kd.R_alloc | apply Kd.R_drewN | apply Kd.R_drew)); exact HO472.out) (Kd.R_base ho0) hb)
            have n2_ := Aside0.mk (Kd.R_below (by (with_reducible repeat (first | apply Kd.R_alloc | apply Kd.R_drewN | apply Kd.R_drew)); exact HO475.out) hb)
            have n3_ := Aside0.mk (Kd.R_elder' (by (with_reducible repeat (first | apply Kd.R_alloc | apply Kd.R_drewN | apply Kd.R_drew)); exact HO478.out) (Kd.R_base ho0) hb)
            have n4_ := Aside0.mk (Kd.R_lower (Kd.R_newB (Kd.R_newB (Kd.R_new' (Kd.R_new' (Kd.R_new' ho0 (Kd.R_lt (by (with_reducible repeat (first | apply Kd.R_alloc | apply Kd.R_drewN | apply Kd.R_drew)); exact HO469.out))) (Kd.R_lt (by (with_reducible repeat (first | apply Kd.R_alloc | apply Kd.R_drewN | apply Kd.R_drew)); exact HO472.out))) (Kd.R_lt (by (with_reducible repeat (first | apply Kd.R_alloc | apply Kd.R_drewN | apply Kd.R_drew)); exact HO478.out))) (g := gb481) (o := .cells #[.bool ((rd_T37 t476 0).f0), .string ((rd_T37 t476 0).f1), .int .i64 ((rd_T37 t476 0).f2)] 37 (0, 0)) (by (with_reducible repeat (first | refine blk_drewN ?_ _ | refine blk_drew ?_ | refine blk_alloc ?_ _)); exact BK481.out)) (g := gb482) (o := .cells #[.bool ((rd_T37 t476 1).f0), .string ((rd_T37 t476 1).f1), .int .i64 ((rd_T37 t476 1).f2)] 37 (0, 0)) (by (with_reducible repeat (first | refine blk_drewN ?_ _ | refine blk_drew ?_ | refine blk_alloc ?_ _)); exact BK482.out)) (below_size (by repeat (first | (with_reducible first | exact HB.out | apply below_alloc | apply pw_below_drewN | apply below_drew1 | refine below_set ?_ GE481.out | refine below_set ?_ GE482.out) | exact HB.out))))
            have n5_ := Aside0.mk (blk_below (g := gb481) (o := .cells #[.bool ((rd_T37 t476 0).f0), .string ((rd_T37 t476 0).f1), .int .i64 ((rd_T37 t476 0).f2)] 37 (0, 0)) (by (with_reducible repeat (first | refine blk_drewN ?_ _ | refine blk_drew ?_ | refine blk_alloc ?_ _)); exact BK481.out) hb)
            have n6_ := Aside0.mk (blk_below (g := gb482) (o := .cells #[.bool ((rd_T37 t476 1).f0), .string ((rd_T37 t476 1).f1), .int .i64 ((rd_T37 t476 1).f2)] 37 (0, 0)) (by (with_reducible repeat (first | refine blk_drewN ?_ _ | refine blk_drew ?_ | refine blk_alloc ?_ _)); exact BK482.out) hb)
            have n7_ := Aside0.mk (below_step (by repeat (first | (with_reducible first | exact HB.out | apply below_alloc | apply pw_below_drewN | apply below_drew1 | refine below_set ?_ GE481.out | refine below_set ?_ GE482.out) | exact HB.out)) hb)
            clear HO469
            clear HO472
            clear HO475
            clear HO478
            clear BK481
            clear BK482
            clear HB
            have HO469 := n0_
            have HO472 := n1_
            have HO475 := n2_
            have HO478 := n3_
            have HO487 := n4_
            have BK481 := n5_
            have BK482 := n6_
            have HB := n7_
            clear n0_ n1_ n2_ n3_ n4_ n5_ n6_ n7_
            (try clear hb)
            (try clear hb2)
            (try clear hk)
            (try clear hi)
            (try clear ho0)
            obtain ⟨Ao45, co45, eo45⟩ := Kd.R_slice HO487.out
            (first | subst eo45 | (injection eo45 with f1_ f2_ f3_; have f4_ := f1_.symm; have f5_ := f3_.symm; clear f1_ f2_ f3_; subst f4_; subst f5_))
            refine hK.out _ _ ⟨(blk_cell BK481.out 0).trans rfl, (blk_cell BK481.out 1).trans rfl, (blk_cell BK481.out 2).trans rfl, (blk_cell BK482.out 0).trans rfl, (blk_cell BK482.out 1).trans rfl, (blk_cell BK482.out 2).trans rfl⟩ (fun hHeld => ?_)
            clear hK K
            refine norm_ (a' := ?_) ?_ ?_
            rotate_left
            · show Act.put _ (some 43) _ = _
              simp only [Act.put, List.setIfInBounds_toArray, List.set_cons_zero, List.set_cons_succ, i64_w, i32_w]
              rfl
            refine one_ (i := 14) (N := some 46) #[true, true, true, true, true, true, true, true, true, true, true, true, true, true, true, true, false, true, true, false, false, false] rfl rfl (one_of HT_.out (by kernel_rfl)) (by decide) (fun K hK => ?_)
            refine goes_ Try.func34 (by kernel_rfl) rfl #[.slice Ao45 t485.length co45, .agg #[.bool ((rd_T37 t476 0).f0), .string ((rd_T37 t476 0).f1), .int .i64 ((rd_T37 t476 0).f2)], .agg #[.bool ((rd_T37 t476 1).f0), .string ((rd_T37 t476 1).f1), .int .i64 ((rd_T37 t476 1).f2)]] (by rfl) rfl rfl (by (try simp only [List.map_toArray, List.map_cons, List.map_nil]); first | done | rfl | (simp only [List.length_drop, List.length_take]; rfl)) ?_
            with_reducible refine (chaperonlaw10_behind.calls k _ _ t485 ((rd_T37 t476 0).f0) ((rd_T37 t476 0).f1) ((rd_T37 t476 0).f2) ((rd_T37 t476 1).f0) ((rd_T37 t476 1).f1) ((rd_T37 t476 1).f2) t488 _ ?side1 ?side2 A36.out).mono ?_
            (case side1 => repeat (first | exact (Kd.R_reads' HO487.out).2.2 | (with_reducible refine Kd.C_alloc ?_ _) | (with_reducible refine Kd.C_drewN ?_ _) | (with_reducible refine Kd.C_drew ?_)))
            (case side2 => exact (Kd.R_reads' HO487.out).2.1)
            rintro e w46 ⟨rfl, hb⟩
            refine ⟨_, rfl, ?_⟩
            have n0_ := Aside0.mk (Kd.R_below (by (with_reducible repeat (first | apply Kd.R_alloc | apply Kd.R_drewN | apply Kd.R_drew)); exact HO469.out) hb)
            have n1_ := Aside0.mk (Kd.R_below (by (with_reducible repeat (first | apply Kd.R_alloc | apply Kd.R_drewN | apply Kd.R_drew)); exact HO472.out) hb)
            have n2_ := Aside0.mk (Kd.R_below (by (with_reducible repeat (first | apply Kd.R_alloc | apply Kd.R_drewN | apply Kd.R_drew)); exact HO475.out) hb)
            have n3_ := Aside0.mk (Kd.R_below (by (with_reducible repeat (first | apply Kd.R_alloc | apply Kd.R_drewN | apply Kd.R_drew)); exact HO478.out) hb)
            have n4_ := Aside0.mk (Kd.R_below (by (with_reducible repeat (first | apply Kd.R_alloc | apply Kd.R_drewN | apply Kd.R_drew)); exact HO487.out) hb)
            have n5_ := Aside0.mk (blk_below (g := gb481) (o := .cells #[.bool ((rd_T37 t476 0).f0), .string ((rd_T37 t476 0).f1), .int .i64 ((rd_T37 t476 0).f2)] 37 (0, 0)) (by (with_reducible repeat (first | refine blk_drewN ?_ _ | refine blk_drew ?_ | refine blk_alloc ?_ _)); exact BK481.out) hb)
            have n6_ := Aside0.mk (blk_below (g := gb482) (o := .cells #[.bool ((rd_T37 t476 1).f0), .string ((rd_T37 t476 1).f1), .int .i64 ((rd_T37 t476 1).f2)] 37 (0, 0)) (by (with_reducible repeat (first | refine blk_drewN ?_ _ | refine blk_drew ?_ | refine blk_alloc ?_ _)); exact BK482.out) hb)
            have n7_ := Aside0.mk (below_step (by repeat (first | (with_reducible first | exact HB.out | apply below_alloc | apply pw_below_drewN | apply below_drew1 | refine below_set ?_ GE481.out | refine below_set ?_ GE482.out) | exact HB.out)) hb)
            clear HO469
            clear HO472
            clear HO475
            clear HO478
            clear HO487
            clear BK481
            clear BK482
            clear HB
            have HO469 := n0_
            have HO472 := n1_
            have HO475 := n2_
            have HO478 := n3_
            have HO487 := n4_
            have BK481 := n5_
            have BK482 := n6_
            have HB := n7_
            clear n0_ n1_ n2_ n3_ n4_ n5_ n6_ n7_
            (try clear hb)
            (try clear hb2)
            (try clear hk)
            (try clear hi)
            refine hK.out _ _ ⟨(blk_cell BK481.out 0).trans rfl, (blk_cell BK481.out 1).trans rfl, (blk_cell BK481.out 2).trans rfl, (blk_cell BK482.out 0).trans rfl, (blk_cell BK482.out 1).trans rfl, (blk_cell BK482.out 2).trans rfl⟩ (fun hHeld => ?_)
            clear hK K
            refine norm_ (a' := ?_) ?_ ?_
            rotate_left
            · show Act.put _ (some 46) _ = _
              simp only [Act.put, List.setIfInBounds_toArray, List.set_cons_zero, List.set_cons_succ, i64_w, i32_w]
              rfl
            refine one_ (i := 16) (N := some 48) #[true, true, true, true, true, true, true, true, true, true, true, true, true, true, true, true, true, true, true, false, false, false] rfl rfl (one_of HT_.out (by kernel_rfl)) (by decide) (fun K hK => ?_)
            refine goes_ Try.func35 (by kernel_rfl) rfl #[.slice Ao42 t470.length co42] (by rfl) rfl rfl (by (try simp only [List.map_toArray, List.map_cons, List.map_nil]); first | done | rfl | (simp only [List.length_drop, List.length_take]; rfl)) ?_
            with_reducible refine (chaperonlaw10_turned.calls k _ _ t470 t489 _ ?side1 ?side2 A37.out).mono ?_
            (case side1 => repeat (first | exact (Kd.R_reads' HO472.out).2.2 | (with_reducible refine Kd.C_alloc ?_ _) | (with_reducible refine Kd.C_drewN ?_ _) | (with_reducible refine Kd.C_drew ?_)))
            (case side2 => exact (Kd.R_reads' HO472.out).2.1)
            rintro e w47 ⟨v490, rfl, ho0, hb⟩
            refine ⟨_, rfl, ?_⟩
            have n0_ := Aside0.mk (Kd.R_elder' (by (with_reducible repeat (first | apply Kd.R_alloc | apply Kd.R_drewN | apply Kd.R_drew)); exact HO469.out) (Kd.R_base ho0) hb)
            have n1_ := Aside0.mk (Kd.R_elder' (by (with_reducible repeat (first | apply Kd.R_alloc | apply Kd.R_drewN | apply Kd.R_drew)); exact HO472.out) (Kd.R_base ho0) hb)
            have n2_ := Aside0.mk (Kd.R_below (by (with_reducible repeat (first | apply Kd.R_alloc | apply Kd.R_drewN | apply Kd.R_drew)); exact HO475.out) hb)
            have n3_ := Aside0.mk (Kd.R_elder' (by (with_reducible repeat (first | apply Kd.R_alloc | apply Kd.R_drewN | apply Kd.R_drew)); exact HO478.out) (Kd.R_base ho0) hb)
            have n4_ := Aside0.mk (Kd.R_elder' (by (with_reducible repeat (first | apply Kd.R_alloc | apply Kd.R_drewN | apply Kd.R_drew)); exact HO487.out) (Kd.R_base ho0) hb)
            have n5_ := Aside0.mk (Kd.R_lower (Kd.R_newB (Kd.R_newB (Kd.R_new' (Kd.R_new' (Kd.R_new' (Kd.R_new' ho0 (Kd.R_lt (by (with_reducible repeat (first | apply Kd.R_alloc | apply Kd.R_drewN | apply Kd.R_drew)); exact HO469.out))) (Kd.R_lt (by (with_reducible repeat (first | apply Kd.R_alloc | apply Kd.R_drewN | apply Kd.R_drew)); exact HO472.out))) (Kd.R_lt (by (with_reducible repeat (first | apply Kd.R_alloc | apply Kd.R_drewN | apply Kd.R_drew)); exact HO478.out))) (Kd.R_lt (by (with_reducible repeat (first | apply Kd.R_alloc | apply Kd.R_drewN | apply Kd.R_drew)); exact HO487.out))) (g := gb481) (o := .cells #[.bool ((rd_T37 t476 0).f0), .string ((rd_T37 t476 0).f1), .int .i64 ((rd_T37 t476 0).f2)] 37 (0, 0)) (by (with_reducible repeat (first | refine blk_drewN ?_ _ | refine blk_drew ?_ | refine blk_alloc ?_ _)); exact BK481.out)) (g := gb482) (o := .cells #[.bool ((rd_T37 t476 1).f0), .string ((rd_T37 t476 1).f1), .int .i64 ((rd_T37 t476 1).f2)] 37 (0, 0)) (by (with_reducible repeat (first | refine blk_drewN ?_ _ | refine blk_drew ?_ | refine blk_alloc ?_ _)); exact BK482.out)) (below_size (by repeat (first | (with_reducible first | exact HB.out | apply below_alloc | apply pw_below_drewN | apply below_drew1 | refine below_set ?_ GE481.out | refine below_set ?_ GE482.out) | exact HB.out))))
            have n6_ := Aside0.mk (blk_below (g := gb481) (o := .cells #[.bool ((rd_T37 t476 0).f0), .string ((rd_T37 t476 0).f1), .int .i64 ((rd_T37 t476 0).f2)] 37 (0, 0)) (by (with_reducible repeat (first | refine blk_drewN ?_ _ | refine blk_drew ?_ | refine blk_alloc ?_ _)); exact BK481.out) hb)
            have n7_ := Aside0.mk (blk_below (g := gb482) (o := .cells #[.bool ((rd_T37 t476 1).f0), .string ((rd_T37 t476 1).f1), .int .i64 ((rd_T37 t476 1).f2)] 37 (0, 0)) (by (with_reducible repeat (first | refine blk_drewN ?_ _ | refine blk_drew ?_ | refine blk_alloc ?_ _)); exact BK482.out) hb)
            have n8_ := Aside0.mk (below_step (by repeat (first | (with_reducible first | exact HB.out | apply below_alloc | apply pw_below_drewN | apply below_drew1 | refine below_set ?_ GE481.out | refine below_set ?_ GE482.out) | exact HB.out)) hb)
            clear HO469
            clear HO472
            clear HO475
            clear HO478
            clear HO487
            clear BK481
            clear BK482
            clear HB
            have HO469 := n0_
            have HO472 := n1_
            have HO475 := n2_
            have HO478 := n3_
            have HO487 := n4_
            have HO491 := n5_
            have BK481 := n6_
            have BK482 := n7_
            have HB := n8_
            clear n0_ n1_ n2_ n3_ n4_ n5_ n6_ n7_ n8_
            (try clear hb)
            (try clear hb2)
            (try clear hk)
            (try clear hi)
            (try clear ho0)
            obtain ⟨Ao48, co48, eo48⟩ := Kd.R_slice HO491.out
            (first | subst eo48 | (injection eo48 with f1_ f2_ f3_; have f4_ := f1_.symm; have f5_ := f3_.symm; clear f1_ f2_ f3_; subst f4_; subst f5_))
            refine hK.out _ _ ⟨(blk_cell BK481.out 0).trans rfl, (blk_cell BK481.out 1).trans rfl, (blk_cell BK481.out 2).trans rfl, (blk_cell BK482.out 0).trans rfl, (blk_cell BK482.out 1).trans rfl, (blk_cell BK482.out 2).trans rfl⟩ (fun hHeld => ?_)
            clear hK K
            refine norm_ (a' := ?_) ?_ ?_
            rotate_left
            · show Act.put _ (some 48) _ = _
              simp only [Act.put, List.setIfInBounds_toArray, List.set_cons_zero, List.set_cons_succ, i64_w, i32_w]
              rfl
            refine one_ (i := 19) (N := some 51) #[true, true, true, true, true, true, true, true, true, true, true, true, true, true, true, true, true, true, true, true, false, false] rfl rfl (one_of HT_.out (by kernel_rfl)) (by decide) (fun K hK => ?_)
            refine goes_ Try.func34 (by kernel_rfl) rfl #[.slice Ao48 t489.length co48, .agg #[.bool ((rd_T37 t476 0).f0), .string ((rd_T37 t476 0).f1), .int .i64 ((rd_T37 t476 0).f2)], .agg #[.bool ((rd_T37 t476 1).f0), .string ((rd_T37 t476 1).f1), .int .i64 ((rd_T37 t476 1).f2)]] (by rfl) rfl rfl (by (try simp only [List.map_toArray, List.map_cons, List.map_nil]); first | done | rfl | (simp only [List.length_drop, List.length_take]; rfl)) ?_
            with_reducible refine (chaperonlaw10_behind.calls k _ _ t489 ((rd_T37 t476 0).f0) ((rd_T37 t476 0).f1) ((rd_T37 t476 0).f2) ((rd_T37 t476 1).f0) ((rd_T37 t476 1).f1) ((rd_T37 t476 1).f2) t492 _ ?side1 ?side2 A38.out).mono ?_
            (case side1 => repeat (first | exact (Kd.R_reads' HO491.out).2.2 | (with_reducible refine Kd.C_alloc ?_ _) | (with_reducible refine Kd.C_drewN ?_ _) | (with_reducible refine Kd.C_drew ?_)))
            (case side2 => exact (Kd.R_reads' HO491.out).2.1)
            rintro e w49 ⟨rfl, hb⟩
            refine ⟨_, rfl, ?_⟩
            have n0_ := Aside0.mk (Kd.R_below (by (with_reducible repeat (first | apply Kd.R_alloc | apply Kd.R_drewN | apply Kd.R_drew)); exact HO469.out) hb)
            have n1_ := Aside0.mk (Kd.R_below (by (with_reducible repeat (first | apply Kd.R_alloc | apply Kd.R_drewN | apply Kd.R_drew)); exact HO472.out) hb)
            have n2_ := Aside0.mk (Kd.R_below (by (with_reducible repeat (first | apply Kd.R_alloc | apply Kd.R_drewN | apply Kd.R_drew)); exact HO475.out) hb)
            have n3_ := Aside0.mk (Kd.R_below (by (with_reducible repeat (first | apply Kd.R_alloc | apply Kd.R_drewN | apply Kd.R_drew)); exact HO478.out) hb)
            have n4_ := Aside0.mk (Kd.R_below (by (with_reducible repeat (first | apply Kd.R_alloc | apply Kd.R_drewN | apply Kd.R_drew)); exact HO487.out) hb)
            have n5_ := Aside0.mk (Kd.R_below (by (with_reducible repeat (first | apply Kd.R_alloc | apply Kd.R_drewN | apply Kd.R_drew)); exact HO491.out) hb)
            have n6_ := Aside0.mk (blk_below (g := gb481) (o := .cells #[.bool ((rd_T37 t476 0).f0), .string ((rd_T37 t476 0).f1), .int .i64 ((rd_T37 t476 0).f2)] 37 (0, 0)) (by (with_reducible repeat (first | refine blk_drewN ?_ _ | refine blk_drew ?_ | refine blk_alloc ?_ _)); exact BK481.out) hb)
            have n7_ := Aside0.mk (blk_below (g := gb482) (o := .cells #[.bool ((rd_T37 t476 1).f0), .string ((rd_T37 t476 1).f1), .int .i64 ((rd_T37 t476 1).f2)] 37 (0, 0)) (by (with_reducible repeat (first | refine blk_drewN ?_ _ | refine blk_drew ?_ | refine blk_alloc ?_ _)); exact BK482.out) hb)
            have n8_ := Aside0.mk (below_step (by repeat (first | (with_reducible first | exact HB.out | apply below_alloc | apply pw_below_drewN | apply below_drew1 | refine below_set ?_ GE481.out | refine below_set ?_ GE482.out) | exact HB.out)) hb)
            clear HO469
            clear HO472
            clear HO475
            clear HO478
            clear HO487
            clear HO491
            clear BK481
            clear BK482
            clear HB
            have HO469 := n0_
            have HO472 := n1_
            have HO475 := n2_
            have HO478 := n3_
            have HO487 := n4_
            have HO491 := n5_
            have BK481 := n6_
            have BK482 := n7_
            have HB := n8_
            clear n0_ n1_ n2_ n3_ n4_ n5_ n6_ n7_ n8_
            (try clear hb)
            (try clear hb2)
            (try clear hk)
            (try clear hi)
            refine hK.out _ _ ⟨(blk_cell BK481.out 0).trans rfl, (blk_cell BK481.out 1).trans rfl, (blk_cell BK481.out 2).trans rfl, (blk_cell BK482.out 0).trans rfl, (blk_cell BK482.out 1).trans rfl, (blk_cell BK482.out 2).trans rfl⟩ (fun hHeld => ?_)
            clear hK K
            refine norm_ (a' := ?_) ?_ ?_
            rotate_left
            · show Act.put _ (some 51) _ = _
              simp only [Act.put, List.setIfInBounds_toArray, List.set_cons_zero, List.set_cons_succ, i64_w, i32_w]
              rfl
            refine pure_ (i := 20) (N := some 52) (v := ?_) (a' := ?_) #[true, true, true, true, true, true, true, true, true, true, true, true, true, true, true, true, true, true, true, true, true, false] rfl rfl (any_of HT_.out (by kernel_rfl)) (fun _ _ _ h => h) (Or.inl ⟨by rfl, ?_⟩) ?_ ?_
            rotate_left
            · intro w'
              go_simp
              with_reducible rfl
            rotate_left
            · simp only [Act.put, List.setIfInBounds_toArray, List.set_cons_zero, List.set_cons_succ, i64_w, i32_w]
              rfl
            refine pure_ (i := 21) (N := some 53) (v := ?_) (a' := ?_) #[true, true, true, true, true, true, true, true, true, true, true, true, true, true, true, true, true, true, true, true, true, true] rfl rfl (any_of HT_.out (by kernel_rfl)) (fun _ _ _ h => h) (Or.inl ⟨by rfl, ?_⟩) ?_ ?_
            rotate_left
            · intro w'
              go_simp
              with_reducible rfl
            rotate_left
            · simp only [Act.put, List.setIfInBounds_toArray, List.set_cons_zero, List.set_cons_succ, i64_w, i32_w]
              rfl
            refine done_ (done_of HT_.out (by kernel_rfl)) ?_
            try go_wp2
            go_meet
            case rel => exact ⟨_, ((t488 != t492)), (by first | rfl | (simp; done) | (simp [*]; done)), H', ⟨by first | omega | exact Nat.le_refl _⟩, ⟨by (with_reducible repeat (first | apply Kd.R_alloc | apply Kd.R_drewN | apply Kd.R_drew)); exact Kd.R_mono HO469.out (fun _ hk => ⟨hk.1.1.1, ⟨hk.1.1.2.2.1, hk.1.1.2.2.2⟩⟩)⟩, ⟨by (with_reducible repeat (first | apply Kd.R_alloc | apply Kd.R_drewN | apply Kd.R_drew)); exact Kd.R_mono HO472.out (fun _ hk => ⟨hk.1.1.1, ⟨hk.1.1.2.2.1, hk.1.1.2.2.2⟩⟩)⟩, ⟨by (with_reducible repeat (first | refine blk_drewN ?_ _ | refine blk_drew ?_ | refine blk_alloc ?_ _)); exact BK481.out⟩, ⟨by (with_reducible repeat (first | refine blk_drewN ?_ _ | refine blk_drew ?_ | refine blk_alloc ?_ _)); exact BK482.out⟩, ⟨by repeat (first | (with_reducible first | exact HB.out | apply below_alloc | apply pw_below_drewN | apply below_drew1 | refine below_set ?_ GE481.out | refine below_set ?_ GE482.out) | exact HB.out)⟩⟩
          · rw [if_neg c34] at H
            have c34b0 : (t483 == t484) = false := beq_eq_false_iff_ne.mpr c34
            have c34b1 : (t483 != t484) = true := bne_iff_ne.mpr c34
            (first | rw [c34b0] | (simp only [i64_w, i32_w]; rw [c34b0]) | skip)
            have H' := Aside0.mk H
            clear H
            try go_wp2
            have n0_ : Aside0 (Kd.R k37 37 ((((((w25.setCell ⟨gb481, 0, none⟩ (.bool ((rd_T37 t476 0).f0))).setCell ⟨gb481, 1, none⟩ (.string ((rd_T37 t476 0).f1))).setCell ⟨gb481, 2, none⟩ (.int .i64 ((rd_T37 t476 0).f2))).setCell ⟨gb482, 0, none⟩ (.bool ((rd_T37 t476 1).f0))).setCell ⟨gb482, 1, none⟩ (.string ((rd_T37 t476 1).f1))).setCell ⟨gb482, 2, none⟩ (.int .i64 ((rd_T37 t476 1).f2))) w.heap.size (fun k_ => some k_ ≠ (v471 : Value).ownBlock ∧ some k_ ≠ (.slice (some ad479) t476.length co22 : Value).ownBlock ∧ k_ ≠ gb481 ∧ k_ ≠ gb482) (.slice Ao15 t467.length co15) t467) := ⟨by (with_reducible repeat (first | apply Kd.R_alloc | apply Kd.R_drewN | apply Kd.R_drew)); exact Kd.R_mono (Kd.R_far (p := ⟨gb482, 2, none⟩) (Kd.R_far (p := ⟨gb482, 1, none⟩) (Kd.R_far (p := ⟨gb482, 0, none⟩) (Kd.R_far (p := ⟨gb481, 2, none⟩) (Kd.R_far (p := ⟨gb481, 1, none⟩) (Kd.R_far (p := ⟨gb481, 0, none⟩) (Kd.R_mono (Kd.R_mono HO469.out (fun k_ hk => (⟨hk, hk.2.2.1⟩ : _ ∧ k_ ≠ gb481))) (fun k_ hk => (⟨hk, hk.1.2.2.2⟩ : _ ∧ k_ ≠ gb482))) (fun _ hk => hk.1.2) (.bool ((rd_T37 t476 0).f0))) (fun _ hk => hk.1.2) (.string ((rd_T37 t476 0).f1))) (fun _ hk => hk.1.2) (.int .i64 ((rd_T37 t476 0).f2))) (fun _ hk => hk.2) (.bool ((rd_T37 t476 1).f0))) (fun _ hk => hk.2) (.string ((rd_T37 t476 1).f1))) (fun _ hk => hk.2) (.int .i64 ((rd_T37 t476 1).f2))) (fun _ hk => ⟨hk.1.1.1, ⟨hk.1.1.2.1, ⟨hk.1.1.2.2.1, hk.1.1.2.2.2⟩⟩⟩)⟩
            have n1_ : Aside0 (Kd.R k37 37 ((((((w25.setCell ⟨gb481, 0, none⟩ (.bool ((rd_T37 t476 0).f0))).setCell ⟨gb481, 1, none⟩ (.string ((rd_T37 t476 0).f1))).setCell ⟨gb481, 2, none⟩ (.int .i64 ((rd_T37 t476 0).f2))).setCell ⟨gb482, 0, none⟩ (.bool ((rd_T37 t476 1).f0))).setCell ⟨gb482, 1, none⟩ (.string ((rd_T37 t476 1).f1))).setCell ⟨gb482, 2, none⟩ (.int .i64 ((rd_T37 t476 1).f2))) w.heap.size (fun k_ => some k_ ≠ (.slice Ao15 t467.length co15 : Value).ownBlock ∧ some k_ ≠ (.slice (some ad479) t476.length co22 : Value).ownBlock ∧ k_ ≠ gb481 ∧ k_ ≠ gb482) v471 t470) := ⟨by (with_reducible repeat (first | apply Kd.R_alloc | apply Kd.R_drewN | apply Kd.R_drew)); exact Kd.R_mono (Kd.R_far (p := ⟨gb482, 2, none⟩) (Kd.R_far (p := ⟨gb482, 1, none⟩) (Kd.R_far (p := ⟨gb482, 0, none⟩) (Kd.R_far (p := ⟨gb481, 2, none⟩) (Kd.R_far (p := ⟨gb481, 1, none⟩) (Kd.R_far (p := ⟨gb481, 0, none⟩) (Kd.R_mono (Kd.R_mono HO472.out (fun k_ hk => (⟨hk, hk.2.2.1⟩ : _ ∧ k_ ≠ gb481))) (fun k_ hk => (⟨hk, hk.1.2.2.2⟩ : _ ∧ k_ ≠ gb482))) (fun _ hk => hk.1.2) (.bool ((rd_T37 t476 0).f0))) (fun _ hk => hk.1.2) (.string ((rd_T37 t476 0).f1))) (fun _ hk => hk.1.2) (.int .i64 ((rd_T37 t476 0).f2))) (fun _ hk => hk.2) (.bool ((rd_T37 t476 1).f0))) (fun _ hk => hk.2) (.string ((rd_T37 t476 1).f1))) (fun _ hk => hk.2) (.int .i64 ((rd_T37 t476 1).f2))) (fun _ hk => ⟨hk.1.1.1, ⟨hk.1.1.2.1, ⟨hk.1.1.2.2.1, hk.1.1.2.2.2⟩⟩⟩)⟩
            have n2_ : Aside0 (Kd.R (Kd.int .i64) 3 ((((((w25.setCell ⟨gb481, 0, none⟩ (.bool ((rd_T37 t476 0).f0))).setCell ⟨gb481, 1, none⟩ (.string ((rd_T37 t476 0).f1))).setCell ⟨gb481, 2, none⟩ (.int .i64 ((rd_T37 t476 0).f2))).setCell ⟨gb482, 0, none⟩ (.bool ((rd_T37 t476 1).f0))).setCell ⟨gb482, 1, none⟩ (.string ((rd_T37 t476 1).f1))).setCell ⟨gb482, 2, none⟩ (.int .i64 ((rd_T37 t476 1).f2))) w.heap.size (fun _ => True) (.slice Ao19 y473.length co19) y473) := ⟨by (with_reducible repeat (first | apply Kd.R_alloc | apply Kd.R_drewN | apply Kd.R_drew)); exact Kd.R_mono (Kd.R_far (p := ⟨gb482, 2, none⟩) (Kd.R_far (p := ⟨gb482, 1, none⟩) (Kd.R_far (p := ⟨gb482, 0, none⟩) (Kd.R_far (p := ⟨gb481, 2, none⟩) (Kd.R_far (p := ⟨gb481, 1, none⟩) (Kd.R_far (p := ⟨gb481, 0, none⟩) (Kd.R_types (Kd.R_types HO475.out BK481.out (by decide)) BK482.out (by decide)) (fun _ hk => hk.1.2) (.bool ((rd_T37 t476 0).f0))) (fun _ hk => hk.1.2) (.string ((rd_T37 t476 0).f1))) (fun _ hk => hk.1.2) (.int .i64 ((rd_T37 t476 0).f2))) (fun _ hk => hk.2) (.bool ((rd_T37 t476 1).f0))) (fun _ hk => hk.2) (.string ((rd_T37 t476 1).f1))) (fun _ hk => hk.2) (.int .i64 ((rd_T37 t476 1).f2))) (fun _ hk => trivial)⟩
            have n3_ : Aside0 (Kd.R k37 37 ((((((w25.setCell ⟨gb481, 0, none⟩ (.bool ((rd_T37 t476 0).f0))).setCell ⟨gb481, 1, none⟩ (.string ((rd_T37 t476 0).f1))).setCell ⟨gb481, 2, none⟩ (.int .i64 ((rd_T37 t476 0).f2))).setCell ⟨gb482, 0, none⟩ (.bool ((rd_T37 t476 1).f0))).setCell ⟨gb482, 1, none⟩ (.string ((rd_T37 t476 1).f1))).setCell ⟨gb482, 2, none⟩ (.int .i64 ((rd_T37 t476 1).f2))) w.heap.size (fun k_ => some k_ ≠ (.slice Ao15 t467.length co15 : Value).ownBlock ∧ some k_ ≠ (v471 : Value).ownBlock ∧ k_ ≠ gb481 ∧ k_ ≠ gb482) (.slice (some ad479) t476.length co22) t476) := ⟨by (with_reducible repeat (first | apply Kd.R_alloc | apply Kd.R_drewN | apply Kd.R_drew)); exact Kd.R_mono (Kd.R_far (p := ⟨gb482, 2, none⟩) (Kd.R_far (p := ⟨gb482, 1, none⟩) (Kd.R_far (p := ⟨gb482, 0, none⟩) (Kd.R_far (p := ⟨gb481, 2, none⟩) (Kd.R_far (p := ⟨gb481, 1, none⟩) (Kd.R_far (p := ⟨gb481, 0, none⟩) (Kd.R_mono (Kd.R_mono HO478.out (fun k_ hk => (⟨hk, hk.2.2.1⟩ : _ ∧ k_ ≠ gb481))) (fun k_ hk => (⟨hk, hk.1.2.2.2⟩ : _ ∧ k_ ≠ gb482))) (fun _ hk => hk.1.2) (.bool ((rd_T37 t476 0).f0))) (fun _ hk => hk.1.2) (.string ((rd_T37 t476 0).f1))) (fun _ hk => hk.1.2) (.int .i64 ((rd_T37 t476 0).f2))) (fun _ hk => hk.2) (.bool ((rd_T37 t476 1).f0))) (fun _ hk => hk.2) (.string ((rd_T37 t476 1).f1))) (fun _ hk => hk.2) (.int .i64 ((rd_T37 t476 1).f2))) (fun _ hk => ⟨hk.1.1.1, ⟨hk.1.1.2.1, ⟨hk.1.1.2.2.1, hk.1.1.2.2.2⟩⟩⟩)⟩
            have n4_ : Aside0 (((((((w25.setCell ⟨gb481, 0, none⟩ (.bool ((rd_T37 t476 0).f0))).setCell ⟨gb481, 1, none⟩ (.string ((rd_T37 t476 0).f1))).setCell ⟨gb481, 2, none⟩ (.int .i64 ((rd_T37 t476 0).f2))).setCell ⟨gb482, 0, none⟩ (.bool ((rd_T37 t476 1).f0))).setCell ⟨gb482, 1, none⟩ (.string ((rd_T37 t476 1).f1))).setCell ⟨gb482, 2, none⟩ (.int .i64 ((rd_T37 t476 1).f2))).heap[gb481]? = some (.cells #[.bool ((rd_T37 t476 0).f0), .string ((rd_T37 t476 0).f1), .int .i64 ((rd_T37 t476 0).f2)] 37 (0, 0))) := ⟨by (with_reducible repeat (first | refine blk_drewN ?_ _ | refine blk_drew ?_ | refine blk_alloc ?_ _)); refine blk_far ?_ NB481_482.out _; (with_reducible repeat (first | refine blk_drewN ?_ _ | refine blk_drew ?_ | refine blk_alloc ?_ _)); refine blk_far ?_ NB481_482.out _; (with_reducible repeat (first | refine blk_drewN ?_ _ | refine blk_drew ?_ | refine blk_alloc ?_ _)); refine blk_far ?_ NB481_482.out _; (with_reducible repeat (first | refine blk_drewN ?_ _ | refine blk_drew ?_ | refine blk_alloc ?_ _)); refine blk_put (cs := #[.bool ((rd_T37 t476 0).f0), .string ((rd_T37 t476 0).f1), .int .i64 0]) ?_ 2 _ rfl; (with_reducible repeat (first | refine blk_drewN ?_ _ | refine blk_drew ?_ | refine blk_alloc ?_ _)); refine blk_put (cs := #[.bool ((rd_T37 t476 0).f0), .string (⟨#[]⟩ : ByteArray), .int .i64 0]) ?_ 1 _ rfl; (with_reducible repeat (first | refine blk_drewN ?_ _ | refine blk_drew ?_ | refine blk_alloc ?_ _)); refine blk_put (cs := #[.bool false, .string (⟨#[]⟩ : ByteArray), .int .i64 0]) ?_ 0 _ rfl; (with_reducible repeat (first | refine blk_drewN ?_ _ | refine blk_drew ?_ | refine blk_alloc ?_ _)); exact BK481.out⟩
            have n5_ : Aside0 (((((((w25.setCell ⟨gb481, 0, none⟩ (.bool ((rd_T37 t476 0).f0))).setCell ⟨gb481, 1, none⟩ (.string ((rd_T37 t476 0).f1))).setCell ⟨gb481, 2, none⟩ (.int .i64 ((rd_T37 t476 0).f2))).setCell ⟨gb482, 0, none⟩ (.bool ((rd_T37 t476 1).f0))).setCell ⟨gb482, 1, none⟩ (.string ((rd_T37 t476 1).f1))).setCell ⟨gb482, 2, none⟩ (.int .i64 ((rd_T37 t476 1).f2))).heap[gb482]? = some (.cells #[.bool ((rd_T37 t476 1).f0), .string ((rd_T37 t476 1).f1), .int .i64 ((rd_T37 t476 1).f2)] 37 (0, 0))) := ⟨by (with_reducible repeat (first | refine blk_drewN ?_ _ | refine blk_drew ?_ | refine blk_alloc ?_ _)); refine blk_put (cs := #[.bool ((rd_T37 t476 1).f0), .string ((rd_T37 t476 1).f1), .int .i64 0]) ?_ 2 _ rfl; (with_reducible repeat (first | refine blk_drewN ?_ _ | refine blk_drew ?_ | refine blk_alloc ?_ _)); refine blk_put (cs := #[.bool ((rd_T37 t476 1).f0), .string (⟨#[]⟩ : ByteArray), .int .i64 0]) ?_ 1 _ rfl; (with_reducible repeat (first | refine blk_drewN ?_ _ | refine blk_drew ?_ | refine blk_alloc ?_ _)); refine blk_put (cs := #[.bool false, .string (⟨#[]⟩ : ByteArray), .int .i64 0]) ?_ 0 _ rfl; (with_reducible repeat (first | refine blk_drewN ?_ _ | refine blk_drew ?_ | refine blk_alloc ?_ _)); refine blk_far ?_ NB482_481.out _; (with_reducible repeat (first | refine blk_drewN ?_ _ | refine blk_drew ?_ | refine blk_alloc ?_ _)); refine blk_far ?_ NB482_481.out _; (with_reducible repeat (first | refine blk_drewN ?_ _ | refine blk_drew ?_ | refine blk_alloc ?_ _)); refine blk_far ?_ NB482_481.out _; (with_reducible repeat (first | refine blk_drewN ?_ _ | refine blk_drew ?_ | refine blk_alloc ?_ _)); exact BK482.out⟩
            have n6_ : Aside0 (Below w.heap.size w ((((((w25.setCell ⟨gb481, 0, none⟩ (.bool ((rd_T37 t476 0).f0))).setCell ⟨gb481, 1, none⟩ (.string ((rd_T37 t476 0).f1))).setCell ⟨gb481, 2, none⟩ (.int .i64 ((rd_T37 t476 0).f2))).setCell ⟨gb482, 0, none⟩ (.bool ((rd_T37 t476 1).f0))).setCell ⟨gb482, 1, none⟩ (.string ((rd_T37 t476 1).f1))).setCell ⟨gb482, 2, none⟩ (.int .i64 ((rd_T37 t476 1).f2)))) := ⟨by repeat (first | (with_reducible first | exact HB.out | apply below_alloc | apply pw_below_drewN | apply below_drew1 | refine below_set ?_ GE481.out | refine below_set ?_ GE482.out) | exact HB.out)⟩
            (try clear HO469)
            (try clear HO472)
            (try clear HO475)
            (try clear HO478)
            (try clear BK481)
            (try clear BK482)
            (try clear HB)
            generalize ((((((w25.setCell ⟨gb481, 0, none⟩ (.bool ((rd_T37 t476 0).f0))).setCell ⟨gb481, 1, none⟩ (.string ((rd_T37 t476 0).f1))).setCell ⟨gb481, 2, none⟩ (.int .i64 ((rd_T37 t476 0).f2))).setCell ⟨gb482, 0, none⟩ (.bool ((rd_T37 t476 1).f0))).setCell ⟨gb482, 1, none⟩ (.string ((rd_T37 t476 1).f1))).setCell ⟨gb482, 2, none⟩ (.int .i64 ((rd_T37 t476 1).f2))) = w50 at n0_ n1_ n2_ n3_ n4_ n5_ n6_ ⊢
            have HO469 := n0_
            have HO472 := n1_
            have HO475 := n2_
            have HO478 := n3_
            have BK481 := n4_
            have BK482 := n5_
            have HB := n6_
            clear n0_ n1_ n2_ n3_ n4_ n5_ n6_
            have n0_ := Aside0.mk (Kd.R_drew HO469.out)
            have n1_ := Aside0.mk (Kd.R_drew HO472.out)
            have n2_ := Aside0.mk (Kd.R_drew HO475.out)
            have n3_ := Aside0.mk (Kd.R_drew HO478.out)
            have n4_ := Aside0.mk (blk_drew BK481.out)
            have n5_ := Aside0.mk (blk_drew BK482.out)
            have n6_ := Aside0.mk (below_drew1 HB.out)
            clear HO469
            clear HO472
            clear HO475
            clear HO478
            clear BK481
            clear BK482
            clear HB
            have HO469 := n0_
            have HO472 := n1_
            have HO475 := n2_
            have HO478 := n3_
            have BK481 := n4_
            have BK482 := n5_
            have HB := n6_
            clear n0_ n1_ n2_ n3_ n4_ n5_ n6_
            refine start_ (n := 22) (S := fun w' => w'.cell? ⟨gb481, 0, none⟩ = some (.bool ((rd_T37 t476 0).f0)) ∧ w'.cell? ⟨gb481, 1, none⟩ = some (.string ((rd_T37 t476 0).f1)) ∧ w'.cell? ⟨gb481, 2, none⟩ = some (.int .i64 ((rd_T37 t476 0).f2)) ∧ w'.cell? ⟨gb482, 0, none⟩ = some (.bool ((rd_T37 t476 1).f0)) ∧ w'.cell? ⟨gb482, 1, none⟩ = some (.string ((rd_T37 t476 1).f1)) ∧ w'.cell? ⟨gb482, 2, none⟩ = some (.int .i64 ((rd_T37 t476 1).f2))) (ds := []) #[false, false, false, false, false, false, false, false, false, false, false, false, false, false, false, false, false, false, false, false, false, false] (by kernel_rfl) rfl rfl ⟨(blk_cell BK481.out 0).trans rfl, (blk_cell BK481.out 1).trans rfl, (blk_cell BK481.out 2).trans rfl, (blk_cell BK482.out 0).trans rfl, (blk_cell BK482.out 1).trans rfl, (blk_cell BK482.out 2).trans rfl⟩ (fun hHeld => ?_); refine with_tabW chaperonlaw10_ChainFirst.tab8 chaperonlaw10_ChainFirst.bits8 (fun HT_ HW_ => ?_)
            generalize w50.drew = w51 at HO469 HO472 HO475 HO478 BK481 BK482 HB hHeld ⊢
            refine pure_ (i := 0) (N := some 32) (v := ?_) (a' := ?_) #[true, false, false, false, false, false, false, false, false, false, false, false, false, false, false, false, false, false, false, false, false, false] rfl rfl (any_of HT_.out (by kernel_rfl)) (fun _ _ _ h => h) (Or.inl ⟨by rfl, ?_⟩) ?_ ?_
            rotate_left
            · intro w'
              go_simp
              with_reducible rfl
            rotate_left
            · simp only [Act.put, List.setIfInBounds_toArray, List.set_cons_zero, List.set_cons_succ, i64_w, i32_w]
              rfl
            refine pure_ (i := 4) (N := some 36) (v := ?_) (a' := ?_) #[true, false, false, false, true, false, false, false, false, false, false, false, false, false, false, false, false, false, false, false, false, false] rfl rfl (any_of HT_.out (by kernel_rfl)) (fun _ _ _ h => h) (Or.inl ⟨by rfl, ?_⟩) ?_ ?_
            rotate_left
            · intro w'
              go_simp
              with_reducible rfl
            rotate_left
            · simp only [Act.put, List.setIfInBounds_toArray, List.set_cons_zero, List.set_cons_succ, i64_w, i32_w]
              rfl
            refine take_ (i := 1) (N := some 33) (v := ?_) (a' := ?_) #[true, true, false, false, true, false, false, false, false, false, false, false, false, false, false, false, false, false, false, false, false, false] rfl rfl (take_ofW HT_.out HW_.out (by kernel_rfl)) (fun _ _ _ h => h) (Or.inl ⟨by rfl, ?_⟩) hHeld ?_ ?_
            rotate_left
            · rintro w' ⟨s0, s1, s2, s3, s4, s5⟩
              go_simp
              with_reducible rfl
            rotate_left
            · simp only [Act.put, List.setIfInBounds_toArray, List.set_cons_zero, List.set_cons_succ, i64_w, i32_w]
              rfl
            refine take_ (i := 2) (N := some 34) (v := ?_) (a' := ?_) #[true, true, true, false, true, false, false, false, false, false, false, false, false, false, false, false, false, false, false, false, false, false] rfl rfl (take_ofW HT_.out HW_.out (by kernel_rfl)) (fun _ _ _ h => h) (Or.inl ⟨by rfl, ?_⟩) hHeld ?_ ?_
            rotate_left
            · rintro w' ⟨s0, s1, s2, s3, s4, s5⟩
              go_simp
              with_reducible rfl
            rotate_left
            · simp only [Act.put, List.setIfInBounds_toArray, List.set_cons_zero, List.set_cons_succ, i64_w, i32_w]
              rfl
            refine take_ (i := 5) (N := some 37) (v := ?_) (a' := ?_) #[true, true, true, false, true, true, false, false, false, false, false, false, false, false, false, false, false, false, false, false, false, false] rfl rfl (take_ofW HT_.out HW_.out (by kernel_rfl)) (fun _ _ _ h => h) (Or.inl ⟨by rfl, ?_⟩) hHeld ?_ ?_
            rotate_left
            · rintro w' ⟨s0, s1, s2, s3, s4, s5⟩
              go_simp
              with_reducible rfl
            rotate_left
            · simp only [Act.put, List.setIfInBounds_toArray, List.set_cons_zero, List.set_cons_succ, i64_w, i32_w]
              rfl
            refine take_ (i := 6) (N := some 38) (v := ?_) (a' := ?_) #[true, true, true, false, true, true, true, false, false, false, false, false, false, false, false, false, false, false, false, false, false, false] rfl rfl (take_ofW HT_.out HW_.out (by kernel_rfl)) (fun _ _ _ h => h) (Or.inl ⟨by rfl, ?_⟩) hHeld ?_ ?_
            rotate_left
            · rintro w' ⟨s0, s1, s2, s3, s4, s5⟩
              go_simp
              with_reducible rfl
            rotate_left
            · simp only [Act.put, List.setIfInBounds_toArray, List.set_cons_zero, List.set_cons_succ, i64_w, i32_w]
              rfl
            refine one_ (i := 3) (N := some 35) #[true, true, true, true, true, true, true, false, false, false, false, false, false, false, false, false, false, false, false, false, false, false] rfl rfl (one_of HT_.out (by kernel_rfl)) (by decide) (fun K hK => ?_)
            refine goes_ Try.func34 (by kernel_rfl) rfl #[.slice Ao15 t467.length co15, .agg #[.bool ((rd_T37 t476 0).f0), .string ((rd_T37 t476 0).f1), .int .i64 ((rd_T37 t476 0).f2)], .agg #[.bool ((rd_T37 t476 1).f0), .string ((rd_T37 t476 1).f1), .int .i64 ((rd_T37 t476 1).f2)]] (by rfl) rfl rfl (by (try simp only [List.map_toArray, List.map_cons, List.map_nil]); first | done | rfl | (simp only [List.length_drop, List.length_take]; rfl)) ?_
            with_reducible refine (chaperonlaw10_behind.calls k _ _ t467 ((rd_T37 t476 0).f0) ((rd_T37 t476 0).f1) ((rd_T37 t476 0).f2) ((rd_T37 t476 1).f0) ((rd_T37 t476 1).f1) ((rd_T37 t476 1).f2) t483 _ ?side1 ?side2 A32.out).mono ?_
            (case side1 => repeat (first | exact (Kd.R_reads' HO469.out).2.2 | (with_reducible refine Kd.C_alloc ?_ _) | (with_reducible refine Kd.C_drewN ?_ _) | (with_reducible refine Kd.C_drew ?_)))
            (case side2 => exact (Kd.R_reads' HO469.out).2.1)
            rintro e w52 ⟨rfl, hb⟩
            refine ⟨_, rfl, ?_⟩
            have n0_ := Aside0.mk (Kd.R_below (by (with_reducible repeat (first | apply Kd.R_alloc | apply Kd.R_drewN | apply Kd.R_drew)); exact HO469.out) hb)
            have n1_ := Aside0.mk (Kd.R_below (by (with_reducible repeat (first | apply Kd.R_alloc | apply Kd.R_drewN | apply Kd.R_drew)); exact HO472.out) hb)
            have n2_ := Aside0.mk (Kd.R_below (by (with_reducible repeat (first | apply Kd.R_alloc | apply Kd.R_drewN | apply Kd.R_drew)); exact HO475.out) hb)
            have n3_ := Aside0.mk (Kd.R_below (by (with_reducible repeat (first | apply Kd.R_alloc | apply Kd.R_drewN | apply Kd.R_drew)); exact HO478.out) hb)
            have n4_ := Aside0.mk (blk_below (g := gb481) (o := .cells #[.bool ((rd_T37 t476 0).f0), .string ((rd_T37 t476 0).f1), .int .i64 ((rd_T37 t476 0).f2)] 37 (0, 0)) (by (with_reducible repeat (first | refine blk_drewN ?_ _ | refine blk_drew ?_ | refine blk_alloc ?_ _)); exact BK481.out) hb)
            have n5_ := Aside0.mk (blk_below (g := gb482) (o := .cells #[.bool ((rd_T37 t476 1).f0), .string ((rd_T37 t476 1).f1), .int .i64 ((rd_T37 t476 1).f2)] 37 (0, 0)) (by (with_reducible repeat (first | refine blk_drewN ?_ _ | refine blk_drew ?_ | refine blk_alloc ?_ _)); exact BK482.out) hb)
            have n6_ := Aside0.mk (below_step (by repeat (first | (with_reducible first | exact HB.out | apply below_alloc | apply pw_below_drewN | apply below_drew1 | refine below_set ?_ GE481.out | refine below_set ?_ GE482.out) | exact HB.out)) hb)
            clear HO469
            clear HO472
            clear HO475
            clear HO478
            clear BK481
            clear BK482
            clear HB
            have HO469 := n0_
            have HO472 := n1_
            have HO475 := n2_
            have HO478 := n3_
            have BK481 := n4_
            have BK482 := n5_
            have HB := n6_
            clear n0_ n1_ n2_ n3_ n4_ n5_ n6_
            (try clear hb)
            (try clear hb2)
            (try clear hk)
            (try clear hi)
            obtain ⟨Ao53, co53, eo53⟩ := Kd.R_slice HO472.out
            (first | subst eo53 | (injection eo53 with f1_ f2_ f3_; have f4_ := f1_.symm; have f5_ := f3_.symm; clear f1_ f2_ f3_; subst f4_; subst f5_))
            refine hK.out _ _ ⟨(blk_cell BK481.out 0).trans rfl, (blk_cell BK481.out 1).trans rfl, (blk_cell BK481.out 2).trans rfl, (blk_cell BK482.out 0).trans rfl, (blk_cell BK482.out 1).trans rfl, (blk_cell BK482.out 2).trans rfl⟩ (fun hHeld => ?_)
            clear hK K
            refine norm_ (a' := ?_) ?_ ?_
            rotate_left
            · show Act.put _ (some 35) _ = _
              simp only [Act.put, List.setIfInBounds_toArray, List.set_cons_zero, List.set_cons_succ, i64_w, i32_w]
              rfl
            refine one_ (i := 7) (N := some 39) #[true, true, true, true, true, true, true, true, false, false, false, false, false, false, false, false, false, false, false, false, false, false] rfl rfl (one_of HT_.out (by kernel_rfl)) (by decide) (fun K hK => ?_)
            refine goes_ Try.func34 (by kernel_rfl) rfl #[.slice Ao53 t470.length co53, .agg #[.bool ((rd_T37 t476 0).f0), .string ((rd_T37 t476 0).f1), .int .i64 ((rd_T37 t476 0).f2)], .agg #[.bool ((rd_T37 t476 1).f0), .string ((rd_T37 t476 1).f1), .int .i64 ((rd_T37 t476 1).f2)]] (by rfl) rfl rfl (by (try simp only [List.map_toArray, List.map_cons, List.map_nil]); first | done | rfl | (simp only [List.length_drop, List.length_take]; rfl)) ?_
            with_reducible refine (chaperonlaw10_behind.calls k _ _ t470 ((rd_T37 t476 0).f0) ((rd_T37 t476 0).f1) ((rd_T37 t476 0).f2) ((rd_T37 t476 1).f0) ((rd_T37 t476 1).f1) ((rd_T37 t476 1).f2) t484 _ ?side1 ?side2 A33.out).mono ?_
            (case side1 => repeat (first | exact (Kd.R_reads' HO472.out).2.2 | (with_reducible refine Kd.C_alloc ?_ _) | (with_reducible refine Kd.C_drewN ?_ _) | (with_reducible refine Kd.C_drew ?_)))
            (case side2 => exact (Kd.R_reads' HO472.out).2.1)
            rintro e w54 ⟨rfl, hb⟩
            refine ⟨_, rfl, ?_⟩
            have n0_ := Aside0.mk (Kd.R_below (by (with_reducible repeat (first | apply Kd.R_alloc | apply Kd.R_drewN | apply Kd.R_drew)); exact HO469.out) hb)
            have n1_ := Aside0.mk (Kd.R_below (by (with_reducible repeat (first | apply Kd.R_alloc | apply Kd.R_drewN | apply Kd.R_drew)); exact HO472.out) hb)
            have n2_ := Aside0.mk (Kd.R_below (by (with_reducible repeat (first | apply Kd.R_alloc | apply Kd.R_drewN | apply Kd.R_drew)); exact HO475.out) hb)
            have n3_ := Aside0.mk (Kd.R_below (by (with_reducible repeat (first | apply Kd.R_alloc | apply Kd.R_drewN | apply Kd.R_drew)); exact HO478.out) hb)
            have n4_ := Aside0.mk (blk_below (g := gb481) (o := .cells #[.bool ((rd_T37 t476 0).f0), .string ((rd_T37 t476 0).f1), .int .i64 ((rd_T37 t476 0).f2)] 37 (0, 0)) (by (with_reducible repeat (first | refine blk_drewN ?_ _ | refine blk_drew ?_ | refine blk_alloc ?_ _)); exact BK481.out) hb)
            have n5_ := Aside0.mk (blk_below (g := gb482) (o := .cells #[.bool ((rd_T37 t476 1).f0), .string ((rd_T37 t476 1).f1), .int .i64 ((rd_T37 t476 1).f2)] 37 (0, 0)) (by (with_reducible repeat (first | refine blk_drewN ?_ _ | refine blk_drew ?_ | refine blk_alloc ?_ _)); exact BK482.out) hb)
            have n6_ := Aside0.mk (below_step (by repeat (first | (with_reducible first | exact HB.out | apply below_alloc | apply pw_below_drewN | apply below_drew1 | refine below_set ?_ GE481.out | refine below_set ?_ GE482.out) | exact HB.out)) hb)
            clear HO469
            clear HO472
            clear HO475
            clear HO478
            clear BK481
            clear BK482
            clear HB
            have HO469 := n0_
            have HO472 := n1_
            have HO475 := n2_
            have HO478 := n3_
            have BK481 := n4_
            have BK482 := n5_
            have HB := n6_
            clear n0_ n1_ n2_ n3_ n4_ n5_ n6_
            (try clear hb)
            (try clear hb2)
            (try clear hk)
            (try clear hi)
            refine hK.out _ _ ⟨(blk_cell BK481.out 0).trans rfl, (blk_cell BK481.out 1).trans rfl, (blk_cell BK481.out 2).trans rfl, (blk_cell BK482.out 0).trans rfl, (blk_cell BK482.out 1).trans rfl, (blk_cell BK482.out 2).trans rfl⟩ (fun hHeld => ?_)
            clear hK K
            refine norm_ (a' := ?_) ?_ ?_
            rotate_left
            · show Act.put _ (some 39) _ = _
              simp only [Act.put, List.setIfInBounds_toArray, List.set_cons_zero, List.set_cons_succ, i64_w, i32_w]
              rfl
            refine pure_ (i := 8) (N := some 40) (v := ?_) (a' := ?_) #[true, true, true, true, true, true, true, true, true, false, false, false, false, false, false, false, false, false, false, false, false, false] rfl rfl (any_of HT_.out (by kernel_rfl)) (fun _ _ _ h => h) (Or.inl ⟨by rfl, ?_⟩) ?_ ?_
            rotate_left
            · intro w'
              go_simp
              with_reducible rfl
            rotate_left
            · simp only [Act.put, List.setIfInBounds_toArray, List.set_cons_zero, List.set_cons_succ, i64_w, i32_w]
              rfl
            refine pure_ (i := 9) (N := some 41) (v := ?_) (a' := ?_) #[true, true, true, true, true, true, true, true, true, true, false, false, false, false, false, false, false, false, false, false, false, false] rfl rfl (any_of HT_.out (by kernel_rfl)) (fun _ _ _ h => h) (Or.inl ⟨by rfl, ?_⟩) ?_ ?_
            rotate_left
            · intro w'
              go_simp
              with_reducible rfl
            rotate_left
            · simp only [Act.put, List.setIfInBounds_toArray, List.set_cons_zero, List.set_cons_succ, i64_w, i32_w]
              rfl
            refine pure_ (i := 10) (N := some 42) (v := undef) (a' := ?_) #[true, true, true, true, true, true, true, true, true, true, true, false, false, false, false, false, false, false, false, false, false, false] rfl rfl (any_of HT_.out (by kernel_rfl)) (fun _ _ _ h => h) (Or.inr ⟨by rfl, rfl⟩) ?_ ?_
            rotate_left
            · simp only [Act.put, List.setIfInBounds_toArray, List.set_cons_zero, List.set_cons_succ, i64_w, i32_w]
              rfl
            refine pure_ (i := 11) (N := some 43) (v := undef) (a' := ?_) #[true, true, true, true, true, true, true, true, true, true, true, true, false, false, false, false, false, false, false, false, false, false] rfl rfl (any_of HT_.out (by kernel_rfl)) (fun _ _ _ h => h) (Or.inr ⟨by rfl, rfl⟩) ?_ ?_
            rotate_left
            · simp only [Act.put, List.setIfInBounds_toArray, List.set_cons_zero, List.set_cons_succ, i64_w, i32_w]
              rfl
            refine pure_ (i := 12) (N := some 44) (v := undef) (a' := ?_) #[true, true, true, true, true, true, true, true, true, true, true, true, true, false, false, false, false, false, false, false, false, false] rfl rfl (any_of HT_.out (by kernel_rfl)) (fun _ _ _ h => h) (Or.inr ⟨by rfl, rfl⟩) ?_ ?_
            rotate_left
            · simp only [Act.put, List.setIfInBounds_toArray, List.set_cons_zero, List.set_cons_succ, i64_w, i32_w]
              rfl
            refine pure_ (i := 13) (N := some 45) (v := undef) (a' := ?_) #[true, true, true, true, true, true, true, true, true, true, true, true, true, true, false, false, false, false, false, false, false, false] rfl rfl (any_of HT_.out (by kernel_rfl)) (fun _ _ _ h => h) (Or.inr ⟨by rfl, rfl⟩) ?_ ?_
            rotate_left
            · simp only [Act.put, List.setIfInBounds_toArray, List.set_cons_zero, List.set_cons_succ, i64_w, i32_w]
              rfl
            refine pure_ (i := 14) (N := some 46) (v := undef) (a' := ?_) #[true, true, true, true, true, true, true, true, true, true, true, true, true, true, true, false, false, false, false, false, false, false] rfl rfl (any_of HT_.out (by kernel_rfl)) (fun _ _ _ h => h) (Or.inr ⟨by rfl, rfl⟩) ?_ ?_
            rotate_left
            · simp only [Act.put, List.setIfInBounds_toArray, List.set_cons_zero, List.set_cons_succ, i64_w, i32_w]
              rfl
            refine pure_ (i := 15) (N := some 47) (v := undef) (a' := ?_) #[true, true, true, true, true, true, true, true, true, true, true, true, true, true, true, true, false, false, false, false, false, false] rfl rfl (any_of HT_.out (by kernel_rfl)) (fun _ _ _ h => h) (Or.inr ⟨by rfl, rfl⟩) ?_ ?_
            rotate_left
            · simp only [Act.put, List.setIfInBounds_toArray, List.set_cons_zero, List.set_cons_succ, i64_w, i32_w]
              rfl
            refine pure_ (i := 16) (N := some 48) (v := undef) (a' := ?_) #[true, true, true, true, true, true, true, true, true, true, true, true, true, true, true, true, true, false, false, false, false, false] rfl rfl (any_of HT_.out (by kernel_rfl)) (fun _ _ _ h => h) (Or.inr ⟨by rfl, rfl⟩) ?_ ?_
            rotate_left
            · simp only [Act.put, List.setIfInBounds_toArray, List.set_cons_zero, List.set_cons_succ, i64_w, i32_w]
              rfl
            refine pure_ (i := 17) (N := some 49) (v := undef) (a' := ?_) #[true, true, true, true, true, true, true, true, true, true, true, true, true, true, true, true, true, true, false, false, false, false] rfl rfl (any_of HT_.out (by kernel_rfl)) (fun _ _ _ h => h) (Or.inr ⟨by rfl, rfl⟩) ?_ ?_
            rotate_left
            · simp only [Act.put, List.setIfInBounds_toArray, List.set_cons_zero, List.set_cons_succ, i64_w, i32_w]
              rfl
            refine pure_ (i := 18) (N := some 50) (v := undef) (a' := ?_) #[true, true, true, true, true, true, true, true, true, true, true, true, true, true, true, true, true, true, true, false, false, false] rfl rfl (any_of HT_.out (by kernel_rfl)) (fun _ _ _ h => h) (Or.inr ⟨by rfl, rfl⟩) ?_ ?_
            rotate_left
            · simp only [Act.put, List.setIfInBounds_toArray, List.set_cons_zero, List.set_cons_succ, i64_w, i32_w]
              rfl
            refine pure_ (i := 19) (N := some 51) (v := undef) (a' := ?_) #[true, true, true, true, true, true, true, true, true, true, true, true, true, true, true, true, true, true, true, true, false, false] rfl rfl (any_of HT_.out (by kernel_rfl)) (fun _ _ _ h => h) (Or.inr ⟨by rfl, rfl⟩) ?_ ?_
            rotate_left
            · simp only [Act.put, List.setIfInBounds_toArray, List.set_cons_zero, List.set_cons_succ, i64_w, i32_w]
              rfl
            refine pure_ (i := 20) (N := some 52) (v := undef) (a' := ?_) #[true, true, true, true, true, true, true, true, true, true, true, true, true, true, true, true, true, true, true, true, true, false] rfl rfl (any_of HT_.out (by kernel_rfl)) (fun _ _ _ h => h) (Or.inr ⟨by rfl, rfl⟩) ?_ ?_
            rotate_left
            · simp only [Act.put, List.setIfInBounds_toArray, List.set_cons_zero, List.set_cons_succ, i64_w, i32_w]
              rfl
            refine pure_ (i := 21) (N := some 53) (v := ?_) (a' := ?_) #[true, true, true, true, true, true, true, true, true, true, true, true, true, true, true, true, true, true, true, true, true, true] rfl rfl (any_of HT_.out (by kernel_rfl)) (fun _ _ _ h => h) (Or.inl ⟨by rfl, ?_⟩) ?_ ?_
            rotate_left
            · intro w'
              go_simp
              with_reducible rfl
            rotate_left
            · simp only [Act.put, List.setIfInBounds_toArray, List.set_cons_zero, List.set_cons_succ, i64_w, i32_w]
              rfl
            refine done_ (done_of HT_.out (by kernel_rfl)) ?_
            try go_wp2
            go_meet
            case rel => exact ⟨_, (true), (by first | rfl | (simp; done) | (simp [*]; done)), H', ⟨by first | omega | exact Nat.le_refl _⟩, ⟨by (with_reducible repeat (first | apply Kd.R_alloc | apply Kd.R_drewN | apply Kd.R_drew)); exact Kd.R_mono HO469.out (fun _ hk => ⟨hk.1, ⟨hk.2.2.1, hk.2.2.2⟩⟩)⟩, ⟨by (with_reducible repeat (first | apply Kd.R_alloc | apply Kd.R_drewN | apply Kd.R_drew)); exact Kd.R_mono HO472.out (fun _ hk => ⟨hk.1, ⟨hk.2.2.1, hk.2.2.2⟩⟩)⟩, ⟨by (with_reducible repeat (first | refine blk_drewN ?_ _ | refine blk_drew ?_ | refine blk_alloc ?_ _)); exact BK481.out⟩, ⟨by (with_reducible repeat (first | refine blk_drewN ?_ _ | refine blk_drew ?_ | refine blk_alloc ?_ _)); exact BK482.out⟩, ⟨by repeat (first | (with_reducible first | exact HB.out | apply below_alloc | apply pw_below_drewN | apply below_drew1 | refine below_set ?_ GE481.out | refine below_set ?_ GE482.out) | exact HB.out)⟩⟩
        case rest =>
          clear HC12
          try clear p2
          try clear c3
          try clear c34
          try clear c34b0
          try clear c34b1
          try clear c35
          obtain ⟨kq, x53_11, rfl, HA, HJ11, HO_8, HO_9, BK481, BK482, HB⟩ := hcut
          cases kq with
          | zero => exact absurd HA.out (by simp [chaperonlaw10_ChainFirst.j0])
          | succ kj11 =>
            have H := HA.out
            clear HA
            simp only [chaperonlaw10_ChainFirst.j0] at H
            by_cases c55 : x53_11 = true
            · subst c55
              have H1 : (none) = some r := by rw [if_pos rfl] at H; exact H
              clear H
              have H := H1
              clear H1
              exact absurd H (by simp)
            · replace c55 := Bool.eq_false_iff.mpr c55
              subst c55
              have H1 : (if t466 = true then ((chaperonlaw10_turned.f kj11 t467).bind fun t493 => ((chain_Norm.f t493).bind fun t496 => ((chaperonlaw10_turned.f kj11 t470).bind fun t499 => ((chaperonkit_SameLayers.f kj11 t496 t499).bind fun t502 => (some t502))))) else (none)) = some r := by rw [if_neg (show ¬ (false = true) by decide)] at H; exact H
              clear H
              have H := H1
              clear H1
              by_cases c56 : t466 = true
              · subst c56
                have H1 : ((chaperonlaw10_turned.f kj11 t467).bind fun t493 => ((chain_Norm.f t493).bind fun t496 => ((chaperonlaw10_turned.f kj11 t470).bind fun t499 => ((chaperonkit_SameLayers.f kj11 t496 t499).bind fun t502 => (some t502))))) = some r := by rw [if_pos rfl] at H; exact H
                clear H
                have H := H1
                clear H1
                replace H := Option.bind_eq_some_iff.mp H
                obtain ⟨t493, A570, H⟩ := H
                replace H : ((chain_Norm.f t493).bind fun t496 => ((chaperonlaw10_turned.f kj11 t470).bind fun t499 => ((chaperonkit_SameLayers.f kj11 t496 t499).bind fun t502 => (some t502)))) = some r := H
                have A57 := Aside0.mk A570
                clear A570
                replace H := Option.bind_eq_some_iff.mp H
                obtain ⟨t496, A580, H⟩ := H
                replace H : ((chaperonlaw10_turned.f kj11 t470).bind fun t499 => ((chaperonkit_SameLayers.f kj11 t496 t499).bind fun t502 => (some t502))) = some r := H
                have A58 := Aside0.mk A580
                clear A580
                replace H := Option.bind_eq_some_iff.mp H
                obtain ⟨t499, A590, H⟩ := H
                replace H : ((chaperonkit_SameLayers.f kj11 t496 t499).bind fun t502 => (some t502)) = some r := H
                have A59 := Aside0.mk A590
                clear A590
                replace H := Option.bind_eq_some_iff.mp H
                obtain ⟨t502, A600, H⟩ := H
                replace H : (some t502) = some r := H
                have A60 := Aside0.mk A600
                clear A600
                obtain rfl := Option.some.inj H
                have Tk1_ := Aside0.mk True.intro
                have Tk2_ := Aside0.mk True.intro
                go_wp2_with (first | (clear Tk1_; go_at_call 35; (with_reducible refine (chaperonlaw10_turned.calls kj11 _ _ t467 t493 _ ?side1 ?side2 A57.out).mono ?_); (case side1 => repeat (first | exact (Kd.R_reads' HO_8.out).2.2 | (with_reducible refine Kd.C_alloc ?_ _) | (with_reducible refine Kd.C_drewN ?_ _) | (with_reducible refine Kd.C_drew ?_))); (case side2 => exact (Kd.R_reads' HO_8.out).2.1); rintro e w61 ⟨v494, rfl, ho0, hb⟩; have n0_ := Aside0.mk (Kd.R_elder' (by (with_reducible repeat (first | apply Kd.R_alloc | apply Kd.R_drewN | apply Kd.R_drew)); exact HO_8.out) (Kd.R_base ho0) hb); have n1_ := Aside0.mk (Kd.R_elder' (by (with_reducible repeat (first | apply Kd.R_alloc | apply Kd.R_drewN | apply Kd.R_drew)); exact HO_9.out) (Kd.R_base ho0) hb); have n2_ := Aside0.mk (Kd.R_lower (Kd.R_newB (Kd.R_newB (Kd.R_new' (Kd.R_new' ho0 (Kd.R_lt (by (with_reducible repeat (first | apply Kd.R_alloc | apply Kd.R_drewN | apply Kd.R_drew)); exact HO_8.out))) (Kd.R_lt (by (with_reducible repeat (first | apply Kd.R_alloc | apply Kd.R_drewN | apply Kd.R_drew)); exact HO_9.out))) (g := gb481) (o := .cells #[.bool ((rd_T37 t476 0).f0), .string ((rd_T37 t476 0).f1), .int .i64 ((rd_T37 t476 0).f2)] 37 (0, 0)) (by (with_reducible repeat (first | refine blk_drewN ?_ _ | refine blk_drew ?_ | refine blk_alloc ?_ _)); exact BK481.out)) (g := gb482) (o := .cells #[.bool ((rd_T37 t476 1).f0), .string ((rd_T37 t476 1).f1), .int .i64 ((rd_T37 t476 1).f2)] 37 (0, 0)) (by (with_reducible repeat (first | refine blk_drewN ?_ _ | refine blk_drew ?_ | refine blk_alloc ?_ _)); exact BK482.out)) (below_size (by repeat (first | (with_reducible first | exact HB.out | apply below_alloc | apply pw_below_drewN | apply below_drew1 | refine below_set ?_ GE481.out | refine below_set ?_ GE482.out) | exact HB.out)))); have n3_ := Aside0.mk (blk_below (g := gb481) (o := .cells #[.bool ((rd_T37 t476 0).f0), .string ((rd_T37 t476 0).f1), .int .i64 ((rd_T37 t476 0).f2)] 37 (0, 0)) (by (with_reducible repeat (first | refine blk_drewN ?_ _ | refine blk_drew ?_ | refine blk_alloc ?_ _)); exact BK481.out) hb); have n4_ := Aside0.mk (blk_below (g := gb482) (o := .cells #[.bool ((rd_T37 t476 1).f0), .string ((rd_T37 t476 1).f1), .int .i64 ((rd_T37 t476 1).f2)] 37 (0, 0)) (by (with_reducible repeat (first | refine blk_drewN ?_ _ | refine blk_drew ?_ | refine blk_alloc ?_ _)); exact BK482.out) hb); have n5_ := Aside0.mk (below_step (by repeat (first | (with_reducible first | exact HB.out | apply below_alloc | apply pw_below_drewN | apply below_drew1 | refine below_set ?_ GE481.out | refine below_set ?_ GE482.out) | exact HB.out)) hb); clear HO_8; clear HO_9; clear BK481; clear BK482; clear HB; have HO_8 := n0_; have HO_9 := n1_; have HO495 := n2_; have BK481 := n3_; have BK482 := n4_; have HB := n5_; clear n0_ n1_ n2_ n3_ n4_ n5_; (try clear hb); (try clear hb2); (try clear hk); (try clear hi); (try clear ho0); obtain ⟨Ao62, co62, eo62⟩ := Kd.R_slice HO495.out; subst eo62) | (go_at_call 21; (with_reducible refine (chain_Norm.calls _ _ t493 t496 _ ?side1 ?side2 A58.out).mono ?_); (case side1 => repeat (first | exact (Kd.R_reads' HO495.out).2.2 | (with_reducible refine Kd.C_alloc ?_ _) | (with_reducible refine Kd.C_drewN ?_ _) | (with_reducible refine Kd.C_drew ?_))); (case side2 => exact (Kd.R_reads' HO495.out).2.1); rintro e w63 ⟨v497, rfl, ho0, hb⟩; have n0_ := Aside0.mk (Kd.R_elder' (by (with_reducible repeat (first | apply Kd.R_alloc | apply Kd.R_drewN | apply Kd.R_drew)); exact HO_8.out) (Kd.R_base ho0) hb); have n1_ := Aside0.mk (Kd.R_elder' (by (with_reducible repeat (first | apply Kd.R_alloc | apply Kd.R_drewN | apply Kd.R_drew)); exact HO_9.out) (Kd.R_base ho0) hb); have n2_ := Aside0.mk (Kd.R_elder' (by (with_reducible repeat (first | apply Kd.R_alloc | apply Kd.R_drewN | apply Kd.R_drew)); exact HO495.out) (Kd.R_base ho0) hb); have n3_ := Aside0.mk (Kd.R_lower (Kd.R_newB (Kd.R_newB (Kd.R_new' (Kd.R_new' (Kd.R_new' ho0 (Kd.R_lt (by (with_reducible repeat (first | apply Kd.R_alloc | apply Kd.R_drewN | apply Kd.R_drew)); exact HO_8.out))) (Kd.R_lt (by (with_reducible repeat (first | apply Kd.R_alloc | apply Kd.R_drewN | apply Kd.R_drew)); exact HO_9.out))) (Kd.R_lt (by (with_reducible repeat (first | apply Kd.R_alloc | apply Kd.R_drewN | apply Kd.R_drew)); exact HO495.out))) (g := gb481) (o := .cells #[.bool ((rd_T37 t476 0).f0), .string ((rd_T37 t476 0).f1), .int .i64 ((rd_T37 t476 0).f2)] 37 (0, 0)) (by (with_reducible repeat (first | refine blk_drewN ?_ _ | refine blk_drew ?_ | refine blk_alloc ?_ _)); exact BK481.out)) (g := gb482) (o := .cells #[.bool ((rd_T37 t476 1).f0), .string ((rd_T37 t476 1).f1), .int .i64 ((rd_T37 t476 1).f2)] 37 (0, 0)) (by (with_reducible repeat (first | refine blk_drewN ?_ _ | refine blk_drew ?_ | refine blk_alloc ?_ _)); exact BK482.out)) (below_size (by repeat (first | (with_reducible first | exact HB.out | apply below_alloc | apply pw_below_drewN | apply below_drew1 | refine below_set ?_ GE481.out | refine below_set ?_ GE482.out) | exact HB.out)))); have n4_ := Aside0.mk (blk_below (g := gb481) (o := .cells #[.bool ((rd_T37 t476 0).f0), .string ((rd_T37 t476 0).f1), .int .i64 ((rd_T37 t476 0).f2)] 37 (0, 0)) (by (with_reducible repeat (first | refine blk_drewN ?_ _ | refine blk_drew ?_ | refine blk_alloc ?_ _)); exact BK481.out) hb); have n5_ := Aside0.mk (blk_below (g := gb482) (o := .cells #[.bool ((rd_T37 t476 1).f0), .string ((rd_T37 t476 1).f1), .int .i64 ((rd_T37 t476 1).f2)] 37 (0, 0)) (by (with_reducible repeat (first | refine blk_drewN ?_ _ | refine blk_drew ?_ | refine blk_alloc ?_ _)); exact BK482.out) hb); have n6_ := Aside0.mk (below_step (by repeat (first | (with_reducible first | exact HB.out | apply below_alloc | apply pw_below_drewN | apply below_drew1 | refine below_set ?_ GE481.out | refine below_set ?_ GE482.out) | exact HB.out)) hb); clear HO_8; clear HO_9; clear HO495; clear BK481; clear BK482; clear HB; have HO_8 := n0_; have HO_9 := n1_; have HO495 := n2_; have HO498 := n3_; have BK481 := n4_; have BK482 := n5_; have HB := n6_; clear n0_ n1_ n2_ n3_ n4_ n5_ n6_; (try clear hb); (try clear hb2); (try clear hk); (try clear hi); (try clear ho0); obtain ⟨Ao64, co64, eo64⟩ := Kd.R_slice HO_9.out; subst eo64) | (clear Tk2_; go_at_call 35; (with_reducible refine (chaperonlaw10_turned.calls kj11 _ _ t470 t499 _ ?side1 ?side2 A59.out).mono ?_); (case side1 => repeat (first | exact (Kd.R_reads' HO_9.out).2.2 | (with_reducible refine Kd.C_alloc ?_ _) | (with_reducible refine Kd.C_drewN ?_ _) | (with_reducible refine Kd.C_drew ?_))); (case side2 => exact (Kd.R_reads' HO_9.out).2.1); rintro e w65 ⟨v500, rfl, ho0, hb⟩; have n0_ := Aside0.mk (Kd.R_elder' (by (with_reducible repeat (first | apply Kd.R_alloc | apply Kd.R_drewN | apply Kd.R_drew)); exact HO_8.out) (Kd.R_base ho0) hb); have n1_ := Aside0.mk (Kd.R_elder' (by (with_reducible repeat (first | apply Kd.R_alloc | apply Kd.R_drewN | apply Kd.R_drew)); exact HO_9.out) (Kd.R_base ho0) hb); have n2_ := Aside0.mk (Kd.R_elder' (by (with_reducible repeat (first | apply Kd.R_alloc | apply Kd.R_drewN | apply Kd.R_drew)); exact HO495.out) (Kd.R_base ho0) hb); have n3_ := Aside0.mk (Kd.R_elder' (by (with_reducible repeat (first | apply Kd.R_alloc | apply Kd.R_drewN | apply Kd.R_drew)); exact HO498.out) (Kd.R_base ho0) hb); have n4_ := Aside0.mk (Kd.R_lower (Kd.R_newB (Kd.R_newB (Kd.R_new' (Kd.R_new' (Kd.R_new' (Kd.R_new' ho0 (Kd.R_lt (by (with_reducible repeat (first | apply Kd.R_alloc | apply Kd.R_drewN | apply Kd.R_drew)); exact HO_8.out))) (Kd.R_lt (by (with_reducible repeat (first | apply Kd.R_alloc | apply Kd.R_drewN | apply Kd.R_drew)); exact HO_9.out))) (Kd.R_lt (by (with_reducible repeat (first | apply Kd.R_alloc | apply Kd.R_drewN | apply Kd.R_drew)); exact HO495.out))) (Kd.R_lt (by (with_reducible repeat (first | apply Kd.R_alloc | apply Kd.R_drewN | apply Kd.R_drew)); exact HO498.out))) (g := gb481) (o := .cells #[.bool ((rd_T37 t476 0).f0), .string ((rd_T37 t476 0).f1), .int .i64 ((rd_T37 t476 0).f2)] 37 (0, 0)) (by (with_reducible repeat (first | refine blk_drewN ?_ _ | refine blk_drew ?_ | refine blk_alloc ?_ _)); exact BK481.out)) (g := gb482) (o := .cells #[.bool ((rd_T37 t476 1).f0), .string ((rd_T37 t476 1).f1), .int .i64 ((rd_T37 t476 1).f2)] 37 (0, 0)) (by (with_reducible repeat (first | refine blk_drewN ?_ _ | refine blk_drew ?_ | refine blk_alloc ?_ _)); exact BK482.out)) (below_size (by repeat (first | (with_reducible first | exact HB.out | apply below_alloc | apply pw_below_drewN | apply below_drew1 | refine below_set ?_ GE481.out | refine below_set ?_ GE482.out) | exact HB.out)))); have n5_ := Aside0.mk (blk_below (g := gb481) (o := .cells #[.bool ((rd_T37 t476 0).f0), .string ((rd_T37 t476 0).f1), .int .i64 ((rd_T37 t476 0).f2)] 37 (0, 0)) (by (with_reducible repeat (first | refine blk_drewN ?_ _ | refine blk_drew ?_ | refine blk_alloc ?_ _)); exact BK481.out) hb); have n6_ := Aside0.mk (blk_below (g := gb482) (o := .cells #[.bool ((rd_T37 t476 1).f0), .string ((rd_T37 t476 1).f1), .int .i64 ((rd_T37 t476 1).f2)] 37 (0, 0)) (by (with_reducible repeat (first | refine blk_drewN ?_ _ | refine blk_drew ?_ | refine blk_alloc ?_ _)); exact BK482.out) hb); have n7_ := Aside0.mk (below_step (by repeat (first | (with_reducible first | exact HB.out | apply below_alloc | apply pw_below_drewN | apply below_drew1 | refine below_set ?_ GE481.out | refine below_set ?_ GE482.out) | exact HB.out)) hb); clear HO_8; clear HO_9; clear HO495; clear HO498; clear BK481; clear BK482; clear HB; have HO_8 := n0_; have HO_9 := n1_; have HO495 := n2_; have HO498 := n3_; have HO501 := n4_; have BK481 := n5_; have BK482 := n6_; have HB := n7_; clear n0_ n1_ n2_ n3_ n4_ n5_ n6_ n7_; (try clear hb); (try clear hb2); (try clear hk); (try clear hi); (try clear ho0); obtain ⟨Ao66, co66, eo66⟩ := Kd.R_slice HO498.out; subst eo66; obtain ⟨Ao67, co67, eo67⟩ := Kd.R_slice HO501.out; subst eo67) | (go_at_call 20; (with_reducible refine (chaperonkit_SameLayers.calls kj11 _ _ t496 _ _ t499 t502 _ ?side1 ?side2 ?side3 ?side4 A60.out).mono ?_); (case side1 => repeat (first | exact (Kd.R_reads' HO498.out).2.2 | (with_reducible refine Kd.C_alloc ?_ _) | (with_reducible refine Kd.C_drewN ?_ _) | (with_reducible refine Kd.C_drew ?_))); (case side2 => exact (Kd.R_reads' HO498.out).2.1); (case side3 => repeat (first | exact (Kd.R_reads' HO501.out).2.2 | (with_reducible refine Kd.C_alloc ?_ _) | (with_reducible refine Kd.C_drewN ?_ _) | (with_reducible refine Kd.C_drew ?_))); (case side4 => exact (Kd.R_reads' HO501.out).2.1); rintro e w' ⟨rfl, ⟨nd, rfl⟩⟩))
                go_ret
                exact ⟨by first | rfl | (simp [errW_none, errW_some] <;> rfl) | (simp [*, errW_none, errW_some] <;> rfl), by repeat (first | (with_reducible first | exact HB.out | apply below_alloc | apply pw_below_drewN | apply below_drew1 | refine below_set ?_ GE481.out | refine below_set ?_ GE482.out) | exact HB.out)⟩
              · replace c56 := Bool.eq_false_iff.mpr c56
                subst c56
                have H1 : (none) = some r := by rw [if_neg (show ¬ (false = true) by decide)] at H; exact H
                clear H
                have H := H1
                clear H1
                exact absurd H (by simp)
      · rw [if_neg c11] at H
        exact absurd H (by simp)
    · rw [if_neg c10] at H
      exact absurd H (by simp)

/-- THE ONE PURE STATEMENT of chaperonlaw10_ChainFirst: yours. -/
def chaperonlaw10_ChainFirst.Pure : Prop := ∀ (l0 : List Int) (a1 : Int) (a2 : Int), l0.length ≤ maxLen → l0.length * 8 ≤ 140737488351232 → (∀ x ∈ l0, (Lit.int .i64 x).wf = true) → (Lit.int .i64 a1).wf = true → (Lit.int .i64 a2).wf = true → ∃ k, chaperonlaw10_ChainFirst.f k l0 a1 a2 = some true
theorem chaperonlaw10_ChainFirst.walk (P : chaperonlaw10_ChainFirst.Pure) (a0 : Option Addr) (len0 cap0 : Nat) (z0 : List Int) (a1 : Int) (a2 : Int) (w : World) (w0 : (a0 = none ∧ len0 = 0 ∧ cap0 = 0 ∧ z0 = []) ∨ ∃ x, a0 = some x ∧ len0 ≤ cap0 ∧ cap0 ≤ maxLen ∧ z0.length = cap0 ∧ (∀ i, i < z0.length → w.cell? (x.add i) = some (.int .i64 (z0.getD i 0))) ∧ ∀ n ∈ z0, (Lit.int .i64 n).wf = true) (y0 : len0 * 8 ≤ 140737488351232) (w1 : (Lit.int .i64 a1).wf = true) (w2 : (Lit.int .i64 a2).wf = true) :
    Calls Try.prog 7 #[.slice a0 len0 cap0, .int .i64 a1, .int .i64 a2] w fun e w' => e = .returned (.bool true) ∧ Below w.heap.size w w' := by
  obtain ⟨l0, rfl, hr0, hm0, hw0, hc0⟩ := ReadsInt.ofRowC w0
  obtain ⟨k, h⟩ := P l0 a1 a2 hm0 y0 hw0 w1 w2
  refine (chaperonlaw10_ChainFirst.calls k _ _ l0 a1 a2 true w (Kd.C_of_reads (d := (0 : Int)) (h1 := fun _ => rfl) hr0) hc0 h).mono ?_
  rintro e w' ⟨rfl, hd⟩
  exact ⟨rfl, hd⟩

end Go.Proofs.Ytokfalcmkmelpaa.PAll
