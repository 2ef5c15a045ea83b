-- WRITTEN BY hand.py of this session, over the kit's print: a text of this seat
import Derived.Test.YtokfalcmkmelpaaPAllx0
namespace Go.Proofs.Ytokfalcmkmelpaa.PAll
open Go.RowKit Go.Proofs.YtokfalcmkmelpaaW.PrintWords Go.Proofs.YtokfalcmkmelpaaW.PrintLast Go.Proofs.YtokfalcmkmelpaaW.PrintMore
attribute [local go_sem] max2_int min2_int max_two min_two max_three min_three max_four min_four   -- for this text's walks alone
set_option linter.unusedVariables false
set_option linter.unusedSimpArgs false

/-! ### chaperonlaw10_behind: function 34 -/
def chaperonlaw10_behind.l0 : Nat → List (S37) → Bool → Int → Bool → ByteArray → Int → Bool → ByteArray → Int → Option (Int)
  | 0, _, _, _, _, _, _, _, _, _ => none
  | k + 1, x0, x7, x8, x453000, x453001, x453002, x454000, x454001, x454002 => if x8 < (x0.length : Int) then (if x7 = true then (if 0 ≤ x8 then (if (((rd_T37 x0 x8).f0) == x454000) = true then (if ((rd_T37 x0 x8).f1).toList = x454001.toList then (some ((rd_T37 x0 x8).f2)) else (chaperonlaw10_behind.l0 k x0 true (wrap64 (x8 + 1)) x453000 x453001 x453002 x454000 x454001 x454002)) else (chaperonlaw10_behind.l0 k x0 true (wrap64 (x8 + 1)) x453000 x453001 x453002 x454000 x454001 x454002)) else (none)) else (if 0 ≤ x8 then (if (((rd_T37 x0 x8).f0) == x453000) = true then (if ((rd_T37 x0 x8).f1).toList = x453001.toList then (if (((rd_T37 x0 x8).f0) == x454000) = true then (if ((rd_T37 x0 x8).f1).toList = x454001.toList then (some ((rd_T37 x0 x8).f2)) else (chaperonlaw10_behind.l0 k x0 (((rd_T37 x0 x8).f1).toList == x453001.toList) (wrap64 (x8 + 1)) x453000 x453001 x453002 x454000 x454001 x454002)) else (chaperonlaw10_behind.l0 k x0 (((rd_T37 x0 x8).f1).toList == x453001.toList) (wrap64 (x8 + 1)) x453000 x453001 x453002 x454000 x454001 x454002)) else (chaperonlaw10_behind.l0 k x0 (((rd_T37 x0 x8).f1).toList == x453001.toList) (wrap64 (x8 + 1)) x453000 x453001 x453002 x454000 x454001 x454002)) else (chaperonlaw10_behind.l0 k x0 false (wrap64 (x8 + 1)) x453000 x453001 x453002 x454000 x454001 x454002)) else (none))) else (some 0)
def chaperonlaw10_behind.f (k : Nat) (l0 : List (S37)) (a1_0 : Bool) (a1_1 : ByteArray) (a1_2 : Int) (a2_0 : Bool) (a2_1 : ByteArray) (a2_2 : Int) : Option (Int) := chaperonlaw10_behind.l0 k l0 false 0 a1_0 a1_1 a1_2 a2_0 a2_1 a2_2
theorem chaperonlaw10_behind.mono_l : ∀ k, (∀ y0 y1 y2 y3 y4 y5 y6 y7 y8, LeO (chaperonlaw10_behind.l0 k y0 y1 y2 y3 y4 y5 y6 y7 y8) (chaperonlaw10_behind.l0 (k + 1) y0 y1 y2 y3 y4 y5 y6 y7 y8))
  | 0 => fun _ _ _ _ _ _ _ _ _ r h => by simp [chaperonlaw10_behind.l0] at h
  | k + 1 => by
    have ih0 := chaperonlaw10_behind.mono_l k
    · intro y0 y1 y2 y3 y4 y5 y6 y7 y8
      unfold chaperonlaw10_behind.l0
      repeat' first
      | (with_reducible exact ih0 _ _ _ _ _ _ _ _ _)
      | (with_reducible exact LeO.refl _)
      | (with_reducible exact LeO.none _)
      | (with_reducible refine LeO.ite ?_ ?_)
      | (with_reducible refine LeO.bind ?_ (fun _ => ?_))
      | exact ih0 _ _ _ _ _ _ _ _ _
      | exact LeO.none _
      | refine LeO.ite ?_ ?_
      | refine LeO.bind ?_ (fun _ => ?_)
theorem chaperonlaw10_behind.mono : ∀ a0 a1 a2 a3 a4 a5 a6 k, LeO (chaperonlaw10_behind.f k a0 a1 a2 a3 a4 a5 a6) (chaperonlaw10_behind.f (k + 1) a0 a1 a2 a3 a4 a5 a6) := by
  intro a0 a1 a2 a3 a4 a5 a6 k
  have ih0 := chaperonlaw10_behind.mono_l k
  unfold chaperonlaw10_behind.f
  repeat' first
      | (with_reducible exact ih0 _ _ _ _ _ _ _ _ _)
      | (with_reducible exact LeO.refl _)
      | (with_reducible exact LeO.none _)
      | (with_reducible refine LeO.ite ?_ ?_)
      | (with_reducible refine LeO.bind ?_ (fun _ => ?_))
      | exact ih0 _ _ _ _ _ _ _ _ _
      | exact LeO.none _
      | refine LeO.ite ?_ ?_
      | refine LeO.bind ?_ (fun _ => ?_)
set_option maxHeartbeats 8000000 in
set_option maxRecDepth 100000 in
theorem chaperonlaw10_behind.calls (k : Nat) (A0 : Option Addr) (c0 : Nat) (l0 : List (S37)) (a1_0 : Bool) (a1_1 : ByteArray) (a1_2 : Int) (a2_0 : Bool) (a2_1 : ByteArray) (a2_2 : Int) (r : Int) (w : World) (hr0 : Kd.C k37 w A0 l0.length l0) (hc0 : l0.length ≤ c0) (h : chaperonlaw10_behind.f k l0 a1_0 a1_1 a1_2 a2_0 a2_1 a2_2 = some r) :
    Calls Try.prog 34 #[.slice A0 l0.length c0, .agg #[.bool a1_0, .string a1_1, .int .i64 a1_2], .agg #[.bool a2_0, .string a2_1, .int .i64 a2_2]] w fun e w' => e = .returned (.int .i64 r) ∧ Below w.heap.size w w' := by
  have hu37 := Try.underlying37
  have HR0 := Aside0.mk hr0
  have HC0 := Aside0.mk hc0
  clear hr0 hc0
  have HB := Aside0.mk (Below.refl w.heap.size w)
  have H : (chaperonlaw10_behind.l0 k l0 false 0 a1_0 a1_1 a1_2 a2_0 a2_1 a2_2) = some r := h
  clear h
  have H' := Aside0.mk H
  clear H
  go_enter Try.func34, Try.ntmps34
  go_wp2_with (first | ((with_reducible refine gate_dst (N := 4) rfl ?_); refine box_event ?hg (N := 4) ?hd (cs := #[.bool a1_0, .string a1_1, .int .i64 a1_2]) (t := 37) ?hr ?_; (case hd => rfl); (case hg => rfl); (case hr => first | (go_simp; done) | (go_simp; rfl)); intro gb452 hg w4 hbox hb; have n0_ := Aside0.mk (below_step (by repeat (first | (with_reducible first | exact HB.out | apply below_alloc | apply pw_below_drewN | apply below_drew1) | exact HB.out)) hb); have n1_ := Aside0.mk (hbox); have n2_ := Aside0.mk ((by rw [hg]; exact (below_size (by repeat (first | (with_reducible first | exact HB.out | apply below_alloc | apply pw_below_drewN | apply below_drew1) | exact HB.out))) : w.heap.size ≤ gb452)); have n3_ := Aside0.mk ((by rw [hg]; exact (below_size (by repeat (first | (with_reducible first | exact HB.out | apply below_alloc | apply pw_below_drewN | apply below_drew1) | exact HB.out))) : w.heap.size ≤ gb452)); clear HB; have HB := n0_; have BK452 := n1_; have GW452 := n2_; have GE452 := n3_; clear n0_ n1_ n2_ n3_; clear hb hbox hg) | ((with_reducible refine gate_dst (N := 5) rfl ?_); refine box_event ?hg (N := 5) ?hd (cs := #[.bool a2_0, .string a2_1, .int .i64 a2_2]) (t := 37) ?hr ?_; (case hd => rfl); (case hg => rfl); (case hr => first | (go_simp; done) | (go_simp; rfl)); intro gb453 hg w5 hbox hb; have n0_ := Aside0.mk (blk_below (g := gb452) (o := .cells #[.bool a1_0, .string a1_1, .int .i64 a1_2] 37 (0, 0)) (by (with_reducible repeat (first | refine blk_drewN ?_ _ | refine blk_drew ?_ | refine blk_alloc ?_ _)); exact BK452.out) hb); have n1_ := Aside0.mk (below_step (by repeat (first | (with_reducible first | exact HB.out | apply below_alloc | apply pw_below_drewN | apply below_drew1 | refine below_set ?_ GE452.out) | exact HB.out)) hb); have n2_ := Aside0.mk (hbox); have n3_ := Aside0.mk ((by rw [hg]; exact (below_size (by repeat (first | (with_reducible first | exact HB.out | apply below_alloc | apply pw_below_drewN | apply below_drew1 | refine below_set ?_ GE452.out) | exact HB.out))) : w.heap.size ≤ gb453)); have n4_ := Aside0.mk ((by rw [hg]; exact (below_size (by repeat (first | (with_reducible first | exact HB.out | apply below_alloc | apply pw_below_drewN | apply below_drew1 | refine below_set ?_ GE452.out) | exact HB.out))) : w.heap.size ≤ gb453)); have n5_ := Aside0.mk ((by rw [hg]; exact Nat.ne_of_lt (blk_lt (g := gb452) (o := .cells #[.bool a1_0, .string a1_1, .int .i64 a1_2] 37 (0, 0)) (by (with_reducible repeat (first | refine blk_drewN ?_ _ | refine blk_drew ?_ | refine blk_alloc ?_ _)); exact BK452.out)) : gb452 ≠ gb453)); have n6_ := Aside0.mk ((by rw [hg]; exact Nat.ne_of_gt (blk_lt (g := gb452) (o := .cells #[.bool a1_0, .string a1_1, .int .i64 a1_2] 37 (0, 0)) (by (with_reducible repeat (first | refine blk_drewN ?_ _ | refine blk_drew ?_ | refine blk_alloc ?_ _)); exact BK452.out)) : gb453 ≠ gb452)); clear BK452; clear HB; have BK452 := n0_; have HB := n1_; have BK453 := n2_; have GW453 := n3_; have GE453 := n4_; have NB452_453 := n5_; have NB453_452 := n6_; clear n0_ n1_ n2_ n3_ n4_ n5_ n6_; clear hb hbox hg))
  repeat (go_quiet (first | ((with_reducible refine gate_dst (N := 4) rfl ?_); refine box_event ?hg (N := 4) ?hd (cs := #[.bool a1_0, .string a1_1, .int .i64 a1_2]) (t := 37) ?hr ?_; (case hd => rfl); (case hg => rfl); (case hr => first | (go_simp; done) | (go_simp; rfl)); intro gb452 hg w4 hbox hb; have n0_ := Aside0.mk (below_step (by repeat (first | (with_reducible first | exact HB.out | apply below_alloc | apply pw_below_drewN | apply below_drew1) | exact HB.out)) hb); have n1_ := Aside0.mk (hbox); have n2_ := Aside0.mk ((by rw [hg]; exact (below_size (by repeat (first | (with_reducible first | exact HB.out | apply below_alloc | apply pw_below_drewN | apply below_drew1) | exact HB.out))) : w.heap.size ≤ gb452)); have n3_ := Aside0.mk ((by rw [hg]; exact (below_size (by repeat (first | (with_reducible first | exact HB.out | apply below_alloc | apply pw_below_drewN | apply below_drew1) | exact HB.out))) : w.heap.size ≤ gb452)); clear HB; have HB := n0_; have BK452 := n1_; have GW452 := n2_; have GE452 := n3_; clear n0_ n1_ n2_ n3_; clear hb hbox hg) | ((with_reducible refine gate_dst (N := 5) rfl ?_); refine box_event ?hg (N := 5) ?hd (cs := #[.bool a2_0, .string a2_1, .int .i64 a2_2]) (t := 37) ?hr ?_; (case hd => rfl); (case hg => rfl); (case hr => first | (go_simp; done) | (go_simp; rfl)); intro gb453 hg w5 hbox hb; have n0_ := Aside0.mk (blk_below (g := gb452) (o := .cells #[.bool a1_0, .string a1_1, .int .i64 a1_2] 37 (0, 0)) (by (with_reducible repeat (first | refine blk_drewN ?_ _ | refine blk_drew ?_ | refine blk_alloc ?_ _)); exact BK452.out) hb); have n1_ := Aside0.mk (below_step (by repeat (first | (with_reducible first | exact HB.out | apply below_alloc | apply pw_below_drewN | apply below_drew1 | refine below_set ?_ GE452.out) | exact HB.out)) hb); have n2_ := Aside0.mk (hbox); have n3_ := Aside0.mk ((by rw [hg]; exact (below_size (by repeat (first | (with_reducible first | exact HB.out | apply below_alloc | apply pw_below_drewN | apply below_drew1 | refine below_set ?_ GE452.out) | exact HB.out))) : w.heap.size ≤ gb453)); have n4_ := Aside0.mk ((by rw [hg]; exact (below_size (by repeat (first | (with_reducible first | exact HB.out | apply below_alloc | apply pw_below_drewN | apply below_drew1 | refine below_set ?_ GE452.out) | exact HB.out))) : w.heap.size ≤ gb453)); have n5_ := Aside0.mk ((by rw [hg]; exact Nat.ne_of_lt (blk_lt (g := gb452) (o := .cells #[.bool a1_0, .string a1_1, .int .i64 a1_2] 37 (0, 0)) (by (with_reducible repeat (first | refine blk_drewN ?_ _ | refine blk_drew ?_ | refine blk_alloc ?_ _)); exact BK452.out)) : gb452 ≠ gb453)); have n6_ := Aside0.mk ((by rw [hg]; exact Nat.ne_of_gt (blk_lt (g := gb452) (o := .cells #[.bool a1_0, .string a1_1, .int .i64 a1_2] 37 (0, 0)) (by (with_reducible repeat (first | refine blk_drewN ?_ _ | refine blk_drew ?_ | refine blk_alloc ?_ _)); exact BK452.out)) : gb453 ≠ gb452)); clear BK452; clear HB; have BK452 := n0_; have HB := n1_; have BK453 := n2_; have GW453 := n3_; have GE453 := n4_; have NB452_453 := n5_; have NB453_452 := n6_; clear n0_ n1_ n2_ n3_ n4_ n5_ n6_; clear hb hbox hg)); try go_wp2_with (first | ((with_reducible refine gate_dst (N := 4) rfl ?_); refine box_event ?hg (N := 4) ?hd (cs := #[.bool a1_0, .string a1_1, .int .i64 a1_2]) (t := 37) ?hr ?_; (case hd => rfl); (case hg => rfl); (case hr => first | (go_simp; done) | (go_simp; rfl)); intro gb452 hg w4 hbox hb; have n0_ := Aside0.mk (below_step (by repeat (first | (with_reducible first | exact HB.out | apply below_alloc | apply pw_below_drewN | apply below_drew1) | exact HB.out)) hb); have n1_ := Aside0.mk (hbox); have n2_ := Aside0.mk ((by rw [hg]; exact (below_size (by repeat (first | (with_reducible first | exact HB.out | apply below_alloc | apply pw_below_drewN | apply below_drew1) | exact HB.out))) : w.heap.size ≤ gb452)); have n3_ := Aside0.mk ((by rw [hg]; exact (below_size (by repeat (first | (with_reducible first | exact HB.out | apply below_alloc | apply pw_below_drewN | apply below_drew1) | exact HB.out))) : w.heap.size ≤ gb452)); clear HB; have HB := n0_; have BK452 := n1_; have GW452 := n2_; have GE452 := n3_; clear n0_ n1_ n2_ n3_; clear hb hbox hg) | ((with_reducible refine gate_dst (N := 5) rfl ?_); refine box_event ?hg (N := 5) ?hd (cs := #[.bool a2_0, .string a2_1, .int .i64 a2_2]) (t := 37) ?hr ?_; (case hd => rfl); (case hg => rfl); (case hr => first | (go_simp; done) | (go_simp; rfl)); intro gb453 hg w5 hbox hb; have n0_ := Aside0.mk (blk_below (g := gb452) (o := .cells #[.bool a1_0, .string a1_1, .int .i64 a1_2] 37 (0, 0)) (by (with_reducible repeat (first | refine blk_drewN ?_ _ | refine blk_drew ?_ | refine blk_alloc ?_ _)); exact BK452.out) hb); have n1_ := Aside0.mk (below_step (by repeat (first | (with_reducible first | exact HB.out | apply below_alloc | apply pw_below_drewN | apply below_drew1 | refine below_set ?_ GE452.out) | exact HB.out)) hb); have n2_ := Aside0.mk (hbox); have n3_ := Aside0.mk ((by rw [hg]; exact (below_size (by repeat (first | (with_reducible first | exact HB.out | apply below_alloc | apply pw_below_drewN | apply below_drew1 | refine below_set ?_ GE452.out) | exact HB.out))) : w.heap.size ≤ gb453)); have n4_ := Aside0.mk ((by rw [hg]; exact (below_size (by repeat (first | (with_reducible first | exact HB.out | apply below_alloc | apply pw_below_drewN | apply below_drew1 | refine below_set ?_ GE452.out) | exact HB.out))) : w.heap.size ≤ gb453)); have n5_ := Aside0.mk ((by rw [hg]; exact Nat.ne_of_lt (blk_lt (g := gb452) (o := .cells #[.bool a1_0, .string a1_1, .int .i64 a1_2] 37 (0, 0)) (by (with_reducible repeat (first | refine blk_drewN ?_ _ | refine blk_drew ?_ | refine blk_alloc ?_ _)); exact BK452.out)) : gb452 ≠ gb453)); have n6_ := Aside0.mk ((by rw [hg]; exact Nat.ne_of_gt (blk_lt (g := gb452) (o := .cells #[.bool a1_0, .string a1_1, .int .i64 a1_2] 37 (0, 0)) (by (with_reducible repeat (first | refine blk_drewN ?_ _ | refine blk_drew ?_ | refine blk_alloc ?_ _)); exact BK452.out)) : gb453 ≠ gb452)); clear BK452; clear HB; have BK452 := n0_; have HB := n1_; have BK453 := n2_; have GW453 := n3_; have GE453 := n4_; have NB452_453 := n5_; have NB453_452 := n6_; clear n0_ n1_ n2_ n3_ n4_ n5_ n6_; clear hb hbox hg)))
  go_loopg [7, 8] k (fun kq v7 v8 w' => ∃ (x7_1 : Bool) (x8_1 : Int), v7 = .bool x7_1 ∧ v8 = .int .i64 x8_1 ∧ Aside0 (chaperonlaw10_behind.l0 kq l0 x7_1 x8_1 a1_0 a1_1 a1_2 a2_0 a2_1 a2_2 = some r) ∧ Aside0 (kq ≤ k) ∧ Aside0 (w'.heap[gb452]? = some (.cells #[.bool a1_0, .string a1_1, .int .i64 a1_2] 37 (0, 0))) ∧ Aside0 (w'.heap[gb453]? = some (.cells #[.bool a2_0, .string a2_1, .int .i64 a2_2] 37 (0, 0))) ∧ Aside0 (Below w.heap.size w w'))
  case atStart => exact ⟨(false), (0), (by first | rfl | (simp; done) | (simp [*]; done)), (by first | rfl | (simp; done) | (simp [*]; done)), H', ⟨Nat.le_refl _⟩, ⟨by (with_reducible repeat (first | refine blk_drewN ?_ _ | refine blk_drew ?_ | refine blk_alloc ?_ _)); exact BK452.out⟩, ⟨by (with_reducible repeat (first | refine blk_drewN ?_ _ | refine blk_drew ?_ | refine blk_alloc ?_ _)); exact BK453.out⟩, ⟨by repeat (first | (with_reducible first | exact HB.out | apply below_alloc | apply pw_below_drewN | apply below_drew1 | refine below_set ?_ GE452.out | refine below_set ?_ GE453.out) | exact HB.out)⟩⟩
  case round =>
    clear H'
    try clear p2
    try clear c3
    obtain ⟨x7_1, x8_1, rfl, rfl, HA, HK1, BK452, BK453, HB⟩ := hrel
    cases gk with
    | zero => exact absurd HA.out (by simp [chaperonlaw10_behind.l0])
    | succ k1 =>
      have H := HA.out
      clear HA
      simp only [chaperonlaw10_behind.l0] at H
      by_cases c6 : x8_1 < (l0.length : Int)
      · rw [if_pos c6] at H
        have c6b0 : decide (x8_1 < (l0.length : Int)) = true := decide_eq_true c6
        clear c6
        by_cases c7 : x7_1 = true
        · subst c7
          have H1 : (if 0 ≤ x8_1 then (if (((rd_T37 l0 x8_1).f0) == a2_0) = true then (if ((rd_T37 l0 x8_1).f1).toList = a2_1.toList then (some ((rd_T37 l0 x8_1).f2)) else (chaperonlaw10_behind.l0 k1 l0 true (wrap64 (x8_1 + 1)) a1_0 a1_1 a1_2 a2_0 a2_1 a2_2)) else (chaperonlaw10_behind.l0 k1 l0 true (wrap64 (x8_1 + 1)) a1_0 a1_1 a1_2 a2_0 a2_1 a2_2)) else (none)) = some r := by rw [if_pos rfl] at H; exact H
          clear H
          have H := H1
          clear H1
          by_cases c8 : 0 ≤ x8_1
          · rw [if_pos c8] at H
            have c8b0 : decide (0 ≤ x8_1) = true := decide_eq_true c8
            clear c8
            by_cases c9 : (((rd_T37 l0 x8_1).f0) == a2_0) = true
            · rw [if_pos c9] at H
              have c9b0 : (((rd_T37 l0 x8_1).f0) == a2_0) = true := c9
              (try (have c9b1 : decide (((rd_T37 l0 x8_1).f0) = a2_0) = true := by simpa using c9))
              (try (have c9b2 : (((rd_T37 l0 x8_1).f0) == a2_0) = true := by simpa using c9))
              clear c9
              by_cases c10 : ((rd_T37 l0 x8_1).f1).toList = a2_1.toList
              · rw [if_pos c10] at H
                have c10b0 : (((rd_T37 l0 x8_1).f1).toList == a2_1.toList) = true := beq_iff_eq.mpr c10
                have c10b1 : (((rd_T37 l0 x8_1).f1).toList != a2_1.toList) = false := bne_eq_false_iff_eq.mpr c10
                clear c10
                obtain rfl := Option.some.inj H
                have p454 : 0 ≤ (x8_1 : Int) := of_decide_eq_true (by first | (with_reducible assumption) | assumption)
                have q454 : x8_1 < (l0.length : Int) := of_decide_eq_true (by first | (with_reducible assumption) | assumption)
                obtain ⟨ad454, e454, hx454_0, hx454_1, hx454_2⟩ := at_T37 HR0.out x8_1 p454 q454
                cases e454
                replace hx454_0 := (HB.out.cell (World.block_lt_of_cell? w _ hx454_0)).trans hx454_0
                replace hx454_1 := (HB.out.cell (World.block_lt_of_cell? w _ hx454_1)).trans hx454_1
                replace hx454_2 := (HB.out.cell (World.block_lt_of_cell? w _ hx454_2)).trans hx454_2
                replace p454 := eq_true p454
                replace q454 := eq_true q454
                have hnb11 := NB453_452.out
                have hnc11 := NB452_453.out
                have hcz12_0 : wr.cell? ⟨gb453, 0, none⟩ = some (.bool a2_0) := (blk_cell BK453.out 0).trans rfl
                have hcz12_1 : wr.cell? ⟨gb453, 1, none⟩ = some (.string a2_1) := (blk_cell BK453.out 1).trans rfl
                have hcz12_2 : wr.cell? ⟨gb453, 2, none⟩ = some (.int .i64 a2_2) := (blk_cell BK453.out 2).trans rfl
                have hfz12_0 := blk_frozen BK453.out 0
                have hfz12_1 := blk_frozen BK453.out 1
                have hfz12_2 := blk_frozen BK453.out 2
                have p455 : 0 ≤ (x8_1 : Int) := of_decide_eq_true (by first | (with_reducible assumption) | assumption)
                have q455 : x8_1 < (l0.length : Int) := of_decide_eq_true (by first | (with_reducible assumption) | assumption)
                obtain ⟨ad455, e455, hx455_0, hx455_1, hx455_2⟩ := at_T37 HR0.out x8_1 p455 q455
                obtain rfl : ad454 = ad455 := (by injection e455)
                replace hx455_0 := (HB.out.cell (World.block_lt_of_cell? w _ hx455_0)).trans hx455_0
                replace hx455_1 := (HB.out.cell (World.block_lt_of_cell? w _ hx455_1)).trans hx455_1
                replace hx455_2 := (HB.out.cell (World.block_lt_of_cell? w _ hx455_2)).trans hx455_2
                replace p455 := eq_true p455
                replace q455 := eq_true q455
                have p456 : 0 ≤ (x8_1 : Int) := of_decide_eq_true (by first | (with_reducible assumption) | assumption)
                have q456 : x8_1 < (l0.length : Int) := of_decide_eq_true (by first | (with_reducible assumption) | assumption)
                obtain ⟨ad456, e456, hx456_0, hx456_1, hx456_2⟩ := at_T37 HR0.out x8_1 p456 q456
                obtain rfl : ad454 = ad456 := (by injection e456)
                replace hx456_0 := (HB.out.cell (World.block_lt_of_cell? w _ hx456_0)).trans hx456_0
                replace hx456_1 := (HB.out.cell (World.block_lt_of_cell? w _ hx456_1)).trans hx456_1
                replace hx456_2 := (HB.out.cell (World.block_lt_of_cell? w _ hx456_2)).trans hx456_2
                replace p456 := eq_true p456
                replace q456 := eq_true q456
                go_wp2
                repeat (go_quiet (fail); try go_wp2)
                go_ret
                exact ⟨by first | rfl | (simp [errW_none, errW_some] <;> rfl) | (simp [*, errW_none, errW_some] <;> rfl), by repeat (first | (with_reducible first | exact HB.out | apply below_alloc | apply pw_below_drewN | apply below_drew1 | refine below_set ?_ GE452.out | refine below_set ?_ GE453.out) | exact HB.out)⟩
              · rw [if_neg c10] at H
                have c10b0 : (((rd_T37 l0 x8_1).f1).toList == a2_1.toList) = false := beq_eq_false_iff_ne.mpr c10
                have c10b1 : (((rd_T37 l0 x8_1).f1).toList != a2_1.toList) = true := bne_iff_ne.mpr c10
                have H' := Aside0.mk H
                clear H
                have p454 : 0 ≤ (x8_1 : Int) := of_decide_eq_true (by first | (with_reducible assumption) | assumption)
                have q454 : x8_1 < (l0.length : Int) := of_decide_eq_true (by first | (with_reducible assumption) | assumption)
                obtain ⟨ad454, e454, hx454_0, hx454_1, hx454_2⟩ := at_T37 HR0.out x8_1 p454 q454
                cases e454
                replace hx454_0 := (HB.out.cell (World.block_lt_of_cell? w _ hx454_0)).trans hx454_0
                replace hx454_1 := (HB.out.cell (World.block_lt_of_cell? w _ hx454_1)).trans hx454_1
                replace hx454_2 := (HB.out.cell (World.block_lt_of_cell? w _ hx454_2)).trans hx454_2
                replace p454 := eq_true p454
                replace q454 := eq_true q454
                have hnb13 := NB453_452.out
                have hnc13 := NB452_453.out
                have hcz14_0 : wr.cell? ⟨gb453, 0, none⟩ = some (.bool a2_0) := (blk_cell BK453.out 0).trans rfl
                have hcz14_1 : wr.cell? ⟨gb453, 1, none⟩ = some (.string a2_1) := (blk_cell BK453.out 1).trans rfl
                have hcz14_2 : wr.cell? ⟨gb453, 2, none⟩ = some (.int .i64 a2_2) := (blk_cell BK453.out 2).trans rfl
                have hfz14_0 := blk_frozen BK453.out 0
                have hfz14_1 := blk_frozen BK453.out 1
                have hfz14_2 := blk_frozen BK453.out 2
                have p455 : 0 ≤ (x8_1 : Int) := of_decide_eq_true (by first | (with_reducible assumption) | assumption)
                have q455 : x8_1 < (l0.length : Int) := of_decide_eq_true (by first | (with_reducible assumption) | assumption)
                obtain ⟨ad455, e455, hx455_0, hx455_1, hx455_2⟩ := at_T37 HR0.out x8_1 p455 q455
                obtain rfl : ad454 = ad455 := (by injection e455)
                replace hx455_0 := (HB.out.cell (World.block_lt_of_cell? w _ hx455_0)).trans hx455_0
                replace hx455_1 := (HB.out.cell (World.block_lt_of_cell? w _ hx455_1)).trans hx455_1
                replace hx455_2 := (HB.out.cell (World.block_lt_of_cell? w _ hx455_2)).trans hx455_2
                replace p455 := eq_true p455
                replace q455 := eq_true q455
                go_wp2
                repeat (go_quiet (fail); try go_wp2)
                go_roundg k1
                case measure => have := HK1.out; omega
                case rel => exact ⟨(true), (wrap64 (x8_1 + 1)), (by first | rfl | (simp; done) | (simp [*]; done)), (by first | rfl | (simp; done) | (simp [*]; done)), H', ⟨by have := HK1.out; omega⟩, ⟨by (with_reducible repeat (first | refine blk_drewN ?_ _ | refine blk_drew ?_ | refine blk_alloc ?_ _)); exact BK452.out⟩, ⟨by (with_reducible repeat (first | refine blk_drewN ?_ _ | refine blk_drew ?_ | refine blk_alloc ?_ _)); exact BK453.out⟩, ⟨by repeat (first | (with_reducible first | exact HB.out | apply below_alloc | apply pw_below_drewN | apply below_drew1 | refine below_set ?_ GE452.out | refine below_set ?_ GE453.out) | exact HB.out)⟩⟩
            · rw [if_neg c9] at H
              have c9b0 : (((rd_T37 l0 x8_1).f0) == a2_0) = false := by simpa using c9
              (try (have c9b1 : decide (((rd_T37 l0 x8_1).f0) = a2_0) = false := by simpa using c9))
              (try (have c9b2 : (((rd_T37 l0 x8_1).f0) == a2_0) = false := by simpa using c9))
              (try (have c9b3 : ¬ (((rd_T37 l0 x8_1).f0) = a2_0) := by simpa using c9))
              clear c9
              have H' := Aside0.mk H
              clear H
              have p454 : 0 ≤ (x8_1 : Int) := of_decide_eq_true (by first | (with_reducible assumption) | assumption)
              have q454 : x8_1 < (l0.length : Int) := of_decide_eq_true (by first | (with_reducible assumption) | assumption)
              obtain ⟨ad454, e454, hx454_0, hx454_1, hx454_2⟩ := at_T37 HR0.out x8_1 p454 q454
              cases e454
              replace hx454_0 := (HB.out.cell (World.block_lt_of_cell? w _ hx454_0)).trans hx454_0
              replace hx454_1 := (HB.out.cell (World.block_lt_of_cell? w _ hx454_1)).trans hx454_1
              replace hx454_2 := (HB.out.cell (World.block_lt_of_cell? w _ hx454_2)).trans hx454_2
              replace p454 := eq_true p454
              replace q454 := eq_true q454
              have hnb15 := NB453_452.out
              have hnc15 := NB452_453.out
              have hcz16_0 : wr.cell? ⟨gb453, 0, none⟩ = some (.bool a2_0) := (blk_cell BK453.out 0).trans rfl
              have hcz16_1 : wr.cell? ⟨gb453, 1, none⟩ = some (.string a2_1) := (blk_cell BK453.out 1).trans rfl
              have hcz16_2 : wr.cell? ⟨gb453, 2, none⟩ = some (.int .i64 a2_2) := (blk_cell BK453.out 2).trans rfl
              have hfz16_0 := blk_frozen BK453.out 0
              have hfz16_1 := blk_frozen BK453.out 1
              have hfz16_2 := blk_frozen BK453.out 2
              go_wp2
              repeat (go_quiet (fail); try go_wp2)
              go_roundg k1
              case measure => have := HK1.out; omega
              case rel => exact ⟨(true), (wrap64 (x8_1 + 1)), (by first | rfl | (simp; done) | (simp [*]; done)), (by first | rfl | (simp; done) | (simp [*]; done)), H', ⟨by have := HK1.out; omega⟩, ⟨by (with_reducible repeat (first | refine blk_drewN ?_ _ | refine blk_drew ?_ | refine blk_alloc ?_ _)); exact BK452.out⟩, ⟨by (with_reducible repeat (first | refine blk_drewN ?_ _ | refine blk_drew ?_ | refine blk_alloc ?_ _)); exact BK453.out⟩, ⟨by repeat (first | (with_reducible first | exact HB.out | apply below_alloc | apply pw_below_drewN | apply below_drew1 | refine below_set ?_ GE452.out | refine below_set ?_ GE453.out) | exact HB.out)⟩⟩
          · rw [if_neg c8] at H
            exact absurd H (by simp)
        · replace c7 := Bool.eq_false_iff.mpr c7
          subst c7
          have H1 : (if 0 ≤ x8_1 then (if (((rd_T37 l0 x8_1).f0) == a1_0) = true then (if ((rd_T37 l0 x8_1).f1).toList = a1_1.toList then (if (((rd_T37 l0 x8_1).f0) == a2_0) = true then (if ((rd_T37 l0 x8_1).f1).toList = a2_1.toList then (some ((rd_T37 l0 x8_1).f2)) else (chaperonlaw10_behind.l0 k1 l0 (((rd_T37 l0 x8_1).f1).toList == a1_1.toList) (wrap64 (x8_1 + 1)) a1_0 a1_1 a1_2 a2_0 a2_1 a2_2)) else (chaperonlaw10_behind.l0 k1 l0 (((rd_T37 l0 x8_1).f1).toList == a1_1.toList) (wrap64 (x8_1 + 1)) a1_0 a1_1 a1_2 a2_0 a2_1 a2_2)) else (chaperonlaw10_behind.l0 k1 l0 (((rd_T37 l0 x8_1).f1).toList == a1_1.toList) (wrap64 (x8_1 + 1)) a1_0 a1_1 a1_2 a2_0 a2_1 a2_2)) else (chaperonlaw10_behind.l0 k1 l0 false (wrap64 (x8_1 + 1)) a1_0 a1_1 a1_2 a2_0 a2_1 a2_2)) else (none)) = some r := by rw [if_neg (show ¬ (false = true) by decide)] at H; exact H
          clear H
          have H := H1
          clear H1
          by_cases c17 : 0 ≤ x8_1
          · rw [if_pos c17] at H
            have c17b0 : decide (0 ≤ x8_1) = true := decide_eq_true c17
            clear c17
            by_cases c18 : (((rd_T37 l0 x8_1).f0) == a1_0) = true
            · rw [if_pos c18] at H
              have c18b0 : (((rd_T37 l0 x8_1).f0) == a1_0) = true := c18
              (try (have c18b1 : decide (((rd_T37 l0 x8_1).f0) = a1_0) = true := by simpa using c18))
              (try (have c18b2 : (((rd_T37 l0 x8_1).f0) == a1_0) = true := by simpa using c18))
              clear c18
              by_cases c19 : ((rd_T37 l0 x8_1).f1).toList = a1_1.toList
              · rw [if_pos c19] at H
                have c19b0 : (((rd_T37 l0 x8_1).f1).toList == a1_1.toList) = true := beq_iff_eq.mpr c19
                have c19b1 : (((rd_T37 l0 x8_1).f1).toList != a1_1.toList) = false := bne_eq_false_iff_eq.mpr c19
                clear c19
                by_cases c20 : (((rd_T37 l0 x8_1).f0) == a2_0) = true
                · rw [if_pos c20] at H
                  have c20b0 : (((rd_T37 l0 x8_1).f0) == a2_0) = true := c20
                  (try (have c20b1 : decide (((rd_T37 l0 x8_1).f0) = a2_0) = true := by simpa using c20))
                  (try (have c20b2 : (((rd_T37 l0 x8_1).f0) == a2_0) = true := by simpa using c20))
                  clear c20
                  by_cases c21 : ((rd_T37 l0 x8_1).f1).toList = a2_1.toList
                  · rw [if_pos c21] at H
                    have c21b0 : (((rd_T37 l0 x8_1).f1).toList == a2_1.toList) = true := beq_iff_eq.mpr c21
                    have c21b1 : (((rd_T37 l0 x8_1).f1).toList != a2_1.toList) = false := bne_eq_false_iff_eq.mpr c21
                    clear c21
                    obtain rfl := Option.some.inj H
                    have p457 : 0 ≤ (x8_1 : Int) := of_decide_eq_true (by first | (with_reducible assumption) | assumption)
                    have q457 : x8_1 < (l0.length : Int) := of_decide_eq_true (by first | (with_reducible assumption) | assumption)
                    obtain ⟨ad457, e457, hx457_0, hx457_1, hx457_2⟩ := at_T37 HR0.out x8_1 p457 q457
                    cases e457
                    replace hx457_0 := (HB.out.cell (World.block_lt_of_cell? w _ hx457_0)).trans hx457_0
                    replace hx457_1 := (HB.out.cell (World.block_lt_of_cell? w _ hx457_1)).trans hx457_1
                    replace hx457_2 := (HB.out.cell (World.block_lt_of_cell? w _ hx457_2)).trans hx457_2
                    replace p457 := eq_true p457
                    replace q457 := eq_true q457
                    have hnb22 := NB452_453.out
                    have hnc22 := NB453_452.out
                    have hcz23_0 : wr.cell? ⟨gb452, 0, none⟩ = some (.bool a1_0) := (blk_cell BK452.out 0).trans rfl
                    have hcz23_1 : wr.cell? ⟨gb452, 1, none⟩ = some (.string a1_1) := (blk_cell BK452.out 1).trans rfl
                    have hcz23_2 : wr.cell? ⟨gb452, 2, none⟩ = some (.int .i64 a1_2) := (blk_cell BK452.out 2).trans rfl
                    have hfz23_0 := blk_frozen BK452.out 0
                    have hfz23_1 := blk_frozen BK452.out 1
                    have hfz23_2 := blk_frozen BK452.out 2
                    have p458 : 0 ≤ (x8_1 : Int) := of_decide_eq_true (by first | (with_reducible assumption) | assumption)
                    have q458 : x8_1 < (l0.length : Int) := of_decide_eq_true (by first | (with_reducible assumption) | assumption)
                    obtain ⟨ad458, e458, hx458_0, hx458_1, hx458_2⟩ := at_T37 HR0.out x8_1 p458 q458
                    obtain rfl : ad457 = ad458 := (by injection e458)
                    replace hx458_0 := (HB.out.cell (World.block_lt_of_cell? w _ hx458_0)).trans hx458_0
                    replace hx458_1 := (HB.out.cell (World.block_lt_of_cell? w _ hx458_1)).trans hx458_1
                    replace hx458_2 := (HB.out.cell (World.block_lt_of_cell? w _ hx458_2)).trans hx458_2
                    replace p458 := eq_true p458
                    replace q458 := eq_true q458
                    have p459 : 0 ≤ (x8_1 : Int) := of_decide_eq_true (by first | (with_reducible assumption) | assumption)
                    have q459 : x8_1 < (l0.length : Int) := of_decide_eq_true (by first | (with_reducible assumption) | assumption)
                    obtain ⟨ad459, e459, hx459_0, hx459_1, hx459_2⟩ := at_T37 HR0.out x8_1 p459 q459
                    obtain rfl : ad457 = ad459 := (by injection e459)
                    replace hx459_0 := (HB.out.cell (World.block_lt_of_cell? w _ hx459_0)).trans hx459_0
                    replace hx459_1 := (HB.out.cell (World.block_lt_of_cell? w _ hx459_1)).trans hx459_1
                    replace hx459_2 := (HB.out.cell (World.block_lt_of_cell? w _ hx459_2)).trans hx459_2
                    replace p459 := eq_true p459
                    replace q459 := eq_true q459
                    have hcz24_0 : wr.cell? ⟨gb453, 0, none⟩ = some (.bool a2_0) := (blk_cell BK453.out 0).trans rfl
                    have hcz24_1 : wr.cell? ⟨gb453, 1, none⟩ = some (.string a2_1) := (blk_cell BK453.out 1).trans rfl
                    have hcz24_2 : wr.cell? ⟨gb453, 2, none⟩ = some (.int .i64 a2_2) := (blk_cell BK453.out 2).trans rfl
                    have hfz24_0 := blk_frozen BK453.out 0
                    have hfz24_1 := blk_frozen BK453.out 1
                    have hfz24_2 := blk_frozen BK453.out 2
                    have p460 : 0 ≤ (x8_1 : Int) := of_decide_eq_true (by first | (with_reducible assumption) | assumption)
                    have q460 : x8_1 < (l0.length : Int) := of_decide_eq_true (by first | (with_reducible assumption) | assumption)
                    obtain ⟨ad460, e460, hx460_0, hx460_1, hx460_2⟩ := at_T37 HR0.out x8_1 p460 q460
                    obtain rfl : ad457 = ad460 := (by injection e460)
                    replace hx460_0 := (HB.out.cell (World.block_lt_of_cell? w _ hx460_0)).trans hx460_0
                    replace hx460_1 := (HB.out.cell (World.block_lt_of_cell? w _ hx460_1)).trans hx460_1
                    replace hx460_2 := (HB.out.cell (World.block_lt_of_cell? w _ hx460_2)).trans hx460_2
                    replace p460 := eq_true p460
                    replace q460 := eq_true q460
                    have p461 : 0 ≤ (x8_1 : Int) := of_decide_eq_true (by first | (with_reducible assumption) | assumption)
                    have q461 : x8_1 < (l0.length : Int) := of_decide_eq_true (by first | (with_reducible assumption) | assumption)
                    obtain ⟨ad461, e461, hx461_0, hx461_1, hx461_2⟩ := at_T37 HR0.out x8_1 p461 q461
                    obtain rfl : ad457 = ad461 := (by injection e461)
                    replace hx461_0 := (HB.out.cell (World.block_lt_of_cell? w _ hx461_0)).trans hx461_0
                    replace hx461_1 := (HB.out.cell (World.block_lt_of_cell? w _ hx461_1)).trans hx461_1
                    replace hx461_2 := (HB.out.cell (World.block_lt_of_cell? w _ hx461_2)).trans hx461_2
                    replace p461 := eq_true p461
                    replace q461 := eq_true q461
                    go_wp2
                    repeat (go_quiet (fail); try go_wp2)
                    go_ret
                    exact ⟨by first | rfl | (simp [errW_none, errW_some] <;> rfl) | (simp [*, errW_none, errW_some] <;> rfl), by repeat (first | (with_reducible first | exact HB.out | apply below_alloc | apply pw_below_drewN | apply below_drew1 | refine below_set ?_ GE452.out | refine below_set ?_ GE453.out) | exact HB.out)⟩
                  · rw [if_neg c21] at H
                    have c21b0 : (((rd_T37 l0 x8_1).f1).toList == a2_1.toList) = false := beq_eq_false_iff_ne.mpr c21
                    have c21b1 : (((rd_T37 l0 x8_1).f1).toList != a2_1.toList) = true := bne_iff_ne.mpr c21
                    have H' := Aside0.mk H
                    clear H
                    have p457 : 0 ≤ (x8_1 : Int) := of_decide_eq_true (by first | (with_reducible assumption) | assumption)
                    have q457 : x8_1 < (l0.length : Int) := of_decide_eq_true (by first | (with_reducible assumption) | assumption)
                    obtain ⟨ad457, e457, hx457_0, hx457_1, hx457_2⟩ := at_T37 HR0.out x8_1 p457 q457
                    cases e457
                    replace hx457_0 := (HB.out.cell (World.block_lt_of_cell? w _ hx457_0)).trans hx457_0
                    replace hx457_1 := (HB.out.cell (World.block_lt_of_cell? w _ hx457_1)).trans hx457_1
                    replace hx457_2 := (HB.out.cell (World.block_lt_of_cell? w _ hx457_2)).trans hx457_2
                    replace p457 := eq_true p457
                    replace q457 := eq_true q457
                    have hnb25 := NB452_453.out
                    have hnc25 := NB453_452.out
                    have hcz26_0 : wr.cell? ⟨gb452, 0, none⟩ = some (.bool a1_0) := (blk_cell BK452.out 0).trans rfl
                    have hcz26_1 : wr.cell? ⟨gb452, 1, none⟩ = some (.string a1_1) := (blk_cell BK452.out 1).trans rfl
                    have hcz26_2 : wr.cell? ⟨gb452, 2, none⟩ = some (.int .i64 a1_2) := (blk_cell BK452.out 2).trans rfl
                    have hfz26_0 := blk_frozen BK452.out 0
                    have hfz26_1 := blk_frozen BK452.out 1
                    have hfz26_2 := blk_frozen BK452.out 2
                    have p458 : 0 ≤ (x8_1 : Int) := of_decide_eq_true (by first | (with_reducible assumption) | assumption)
                    have q458 : x8_1 < (l0.length : Int) := of_decide_eq_true (by first | (with_reducible assumption) | assumption)
                    obtain ⟨ad458, e458, hx458_0, hx458_1, hx458_2⟩ := at_T37 HR0.out x8_1 p458 q458
                    obtain rfl : ad457 = ad458 := (by injection e458)
                    replace hx458_0 := (HB.out.cell (World.block_lt_of_cell? w _ hx458_0)).trans hx458_0
                    replace hx458_1 := (HB.out.cell (World.block_lt_of_cell? w _ hx458_1)).trans hx458_1
                    replace hx458_2 := (HB.out.cell (World.block_lt_of_cell? w _ hx458_2)).trans hx458_2
                    replace p458 := eq_true p458
                    replace q458 := eq_true q458
                    have p459 : 0 ≤ (x8_1 : Int) := of_decide_eq_true (by first | (with_reducible assumption) | assumption)
                    have q459 : x8_1 < (l0.length : Int) := of_decide_eq_true (by first | (with_reducible assumption) | assumption)
                    obtain ⟨ad459, e459, hx459_0, hx459_1, hx459_2⟩ := at_T37 HR0.out x8_1 p459 q459
                    obtain rfl : ad457 = ad459 := (by injection e459)
                    replace hx459_0 := (HB.out.cell (World.block_lt_of_cell? w _ hx459_0)).trans hx459_0
                    replace hx459_1 := (HB.out.cell (World.block_lt_of_cell? w _ hx459_1)).trans hx459_1
                    replace hx459_2 := (HB.out.cell (World.block_lt_of_cell? w _ hx459_2)).trans hx459_2
                    replace p459 := eq_true p459
                    replace q459 := eq_true q459
                    have hcz27_0 : wr.cell? ⟨gb453, 0, none⟩ = some (.bool a2_0) := (blk_cell BK453.out 0).trans rfl
                    have hcz27_1 : wr.cell? ⟨gb453, 1, none⟩ = some (.string a2_1) := (blk_cell BK453.out 1).trans rfl
                    have hcz27_2 : wr.cell? ⟨gb453, 2, none⟩ = some (.int .i64 a2_2) := (blk_cell BK453.out 2).trans rfl
                    have hfz27_0 := blk_frozen BK453.out 0
                    have hfz27_1 := blk_frozen BK453.out 1
                    have hfz27_2 := blk_frozen BK453.out 2
                    have p460 : 0 ≤ (x8_1 : Int) := of_decide_eq_true (by first | (with_reducible assumption) | assumption)
                    have q460 : x8_1 < (l0.length : Int) := of_decide_eq_true (by first | (with_reducible assumption) | assumption)
                    obtain ⟨ad460, e460, hx460_0, hx460_1, hx460_2⟩ := at_T37 HR0.out x8_1 p460 q460
                    obtain rfl : ad457 = ad460 := (by injection e460)
                    replace hx460_0 := (HB.out.cell (World.block_lt_of_cell? w _ hx460_0)).trans hx460_0
                    replace hx460_1 := (HB.out.cell (World.block_lt_of_cell? w _ hx460_1)).trans hx460_1
                    replace hx460_2 := (HB.out.cell (World.block_lt_of_cell? w _ hx460_2)).trans hx460_2
                    replace p460 := eq_true p460
                    replace q460 := eq_true q460
                    go_wp2
                    repeat (go_quiet (fail); try go_wp2)
                    go_roundg k1
                    case measure => have := HK1.out; omega
                    case rel => exact ⟨((((rd_T37 l0 x8_1).f1).toList == a1_1.toList)), (wrap64 (x8_1 + 1)), (by first | rfl | (simp; done) | (simp [*]; done)), (by first | rfl | (simp; done) | (simp [*]; done)), H', ⟨by have := HK1.out; omega⟩, ⟨by (with_reducible repeat (first | refine blk_drewN ?_ _ | refine blk_drew ?_ | refine blk_alloc ?_ _)); exact BK452.out⟩, ⟨by (with_reducible repeat (first | refine blk_drewN ?_ _ | refine blk_drew ?_ | refine blk_alloc ?_ _)); exact BK453.out⟩, ⟨by repeat (first | (with_reducible first | exact HB.out | apply below_alloc | apply pw_below_drewN | apply below_drew1 | refine below_set ?_ GE452.out | refine below_set ?_ GE453.out) | exact HB.out)⟩⟩
                · rw [if_neg c20] at H
                  have c20b0 : (((rd_T37 l0 x8_1).f0) == a2_0) = false := by simpa using c20
                  (try (have c20b1 : decide (((rd_T37 l0 x8_1).f0) = a2_0) = false := by simpa using c20))
                  (try (have c20b2 : (((rd_T37 l0 x8_1).f0) == a2_0) = false := by simpa using c20))
                  (try (have c20b3 : ¬ (((rd_T37 l0 x8_1).f0) = a2_0) := by simpa using c20))
                  clear c20
                  have H' := Aside0.mk H
                  clear H
                  have p457 : 0 ≤ (x8_1 : Int) := of_decide_eq_true (by first | (with_reducible assumption) | assumption)
                  have q457 : x8_1 < (l0.length : Int) := of_decide_eq_true (by first | (with_reducible assumption) | assumption)
                  obtain ⟨ad457, e457, hx457_0, hx457_1, hx457_2⟩ := at_T37 HR0.out x8_1 p457 q457
                  cases e457
                  replace hx457_0 := (HB.out.cell (World.block_lt_of_cell? w _ hx457_0)).trans hx457_0
                  replace hx457_1 := (HB.out.cell (World.block_lt_of_cell? w _ hx457_1)).trans hx457_1
                  replace hx457_2 := (HB.out.cell (World.block_lt_of_cell? w _ hx457_2)).trans hx457_2
                  replace p457 := eq_true p457
                  replace q457 := eq_true q457
                  have hnb28 := NB452_453.out
                  have hnc28 := NB453_452.out
                  have hcz29_0 : wr.cell? ⟨gb452, 0, none⟩ = some (.bool a1_0) := (blk_cell BK452.out 0).trans rfl
                  have hcz29_1 : wr.cell? ⟨gb452, 1, none⟩ = some (.string a1_1) := (blk_cell BK452.out 1).trans rfl
                  have hcz29_2 : wr.cell? ⟨gb452, 2, none⟩ = some (.int .i64 a1_2) := (blk_cell BK452.out 2).trans rfl
                  have hfz29_0 := blk_frozen BK452.out 0
                  have hfz29_1 := blk_frozen BK452.out 1
                  have hfz29_2 := blk_frozen BK452.out 2
                  have p458 : 0 ≤ (x8_1 : Int) := of_decide_eq_true (by first | (with_reducible assumption) | assumption)
                  have q458 : x8_1 < (l0.length : Int) := of_decide_eq_true (by first | (with_reducible assumption) | assumption)
                  obtain ⟨ad458, e458, hx458_0, hx458_1, hx458_2⟩ := at_T37 HR0.out x8_1 p458 q458
                  obtain rfl : ad457 = ad458 := (by injection e458)
                  replace hx458_0 := (HB.out.cell (World.block_lt_of_cell? w _ hx458_0)).trans hx458_0
                  replace hx458_1 := (HB.out.cell (World.block_lt_of_cell? w _ hx458_1)).trans hx458_1
                  replace hx458_2 := (HB.out.cell (World.block_lt_of_cell? w _ hx458_2)).trans hx458_2
                  replace p458 := eq_true p458
                  replace q458 := eq_true q458
                  have p459 : 0 ≤ (x8_1 : Int) := of_decide_eq_true (by first | (with_reducible assumption) | assumption)
                  have q459 : x8_1 < (l0.length : Int) := of_decide_eq_true (by first | (with_reducible assumption) | assumption)
                  obtain ⟨ad459, e459, hx459_0, hx459_1, hx459_2⟩ := at_T37 HR0.out x8_1 p459 q459
                  obtain rfl : ad457 = ad459 := (by injection e459)
                  replace hx459_0 := (HB.out.cell (World.block_lt_of_cell? w _ hx459_0)).trans hx459_0
                  replace hx459_1 := (HB.out.cell (World.block_lt_of_cell? w _ hx459_1)).trans hx459_1
                  replace hx459_2 := (HB.out.cell (World.block_lt_of_cell? w _ hx459_2)).trans hx459_2
                  replace p459 := eq_true p459
                  replace q459 := eq_true q459
                  have hcz30_0 : wr.cell? ⟨gb453, 0, none⟩ = some (.bool a2_0) := (blk_cell BK453.out 0).trans rfl
                  have hcz30_1 : wr.cell? ⟨gb453, 1, none⟩ = some (.string a2_1) := (blk_cell BK453.out 1).trans rfl
                  have hcz30_2 : wr.cell? ⟨gb453, 2, none⟩ = some (.int .i64 a2_2) := (blk_cell BK453.out 2).trans rfl
                  have hfz30_0 := blk_frozen BK453.out 0
                  have hfz30_1 := blk_frozen BK453.out 1
                  have hfz30_2 := blk_frozen BK453.out 2
                  go_wp2
                  repeat (go_quiet (fail); try go_wp2)
                  go_roundg k1
                  case measure => have := HK1.out; omega
                  case rel => exact ⟨((((rd_T37 l0 x8_1).f1).toList == a1_1.toList)), (wrap64 (x8_1 + 1)), (by first | rfl | (simp; done) | (simp [*]; done)), (by first | rfl | (simp; done) | (simp [*]; done)), H', ⟨by have := HK1.out; omega⟩, ⟨by (with_reducible repeat (first | refine blk_drewN ?_ _ | refine blk_drew ?_ | refine blk_alloc ?_ _)); exact BK452.out⟩, ⟨by (with_reducible repeat (first | refine blk_drewN ?_ _ | refine blk_drew ?_ | refine blk_alloc ?_ _)); exact BK453.out⟩, ⟨by repeat (first | (with_reducible first | exact HB.out | apply below_alloc | apply pw_below_drewN | apply below_drew1 | refine below_set ?_ GE452.out | refine below_set ?_ GE453.out) | exact HB.out)⟩⟩
              · rw [if_neg c19] at H
                have c19b0 : (((rd_T37 l0 x8_1).f1).toList == a1_1.toList) = false := beq_eq_false_iff_ne.mpr c19
                have c19b1 : (((rd_T37 l0 x8_1).f1).toList != a1_1.toList) = true := bne_iff_ne.mpr c19
                have H' := Aside0.mk H
                clear H
                have p457 : 0 ≤ (x8_1 : Int) := of_decide_eq_true (by first | (with_reducible assumption) | assumption)
                have q457 : x8_1 < (l0.length : Int) := of_decide_eq_true (by first | (with_reducible assumption) | assumption)
                obtain ⟨ad457, e457, hx457_0, hx457_1, hx457_2⟩ := at_T37 HR0.out x8_1 p457 q457
                cases e457
                replace hx457_0 := (HB.out.cell (World.block_lt_of_cell? w _ hx457_0)).trans hx457_0
                replace hx457_1 := (HB.out.cell (World.block_lt_of_cell? w _ hx457_1)).trans hx457_1
                replace hx457_2 := (HB.out.cell (World.block_lt_of_cell? w _ hx457_2)).trans hx457_2
                replace p457 := eq_true p457
                replace q457 := eq_true q457
                have hnb31 := NB452_453.out
                have hnc31 := NB453_452.out
                have hcz32_0 : wr.cell? ⟨gb452, 0, none⟩ = some (.bool a1_0) := (blk_cell BK452.out 0).trans rfl
                have hcz32_1 : wr.cell? ⟨gb452, 1, none⟩ = some (.string a1_1) := (blk_cell BK452.out 1).trans rfl
                have hcz32_2 : wr.cell? ⟨gb452, 2, none⟩ = some (.int .i64 a1_2) := (blk_cell BK452.out 2).trans rfl
                have hfz32_0 := blk_frozen BK452.out 0
                have hfz32_1 := blk_frozen BK452.out 1
                have hfz32_2 := blk_frozen BK452.out 2
                have p458 : 0 ≤ (x8_1 : Int) := of_decide_eq_true (by first | (with_reducible assumption) | assumption)
                have q458 : x8_1 < (l0.length : Int) := of_decide_eq_true (by first | (with_reducible assumption) | assumption)
                obtain ⟨ad458, e458, hx458_0, hx458_1, hx458_2⟩ := at_T37 HR0.out x8_1 p458 q458
                obtain rfl : ad457 = ad458 := (by injection e458)
                replace hx458_0 := (HB.out.cell (World.block_lt_of_cell? w _ hx458_0)).trans hx458_0
                replace hx458_1 := (HB.out.cell (World.block_lt_of_cell? w _ hx458_1)).trans hx458_1
                replace hx458_2 := (HB.out.cell (World.block_lt_of_cell? w _ hx458_2)).trans hx458_2
                replace p458 := eq_true p458
                replace q458 := eq_true q458
                go_wp2
                repeat (go_quiet (fail); try go_wp2)
                go_roundg k1
                case measure => have := HK1.out; omega
                case rel => exact ⟨((((rd_T37 l0 x8_1).f1).toList == a1_1.toList)), (wrap64 (x8_1 + 1)), (by first | rfl | (simp; done) | (simp [*]; done)), (by first | rfl | (simp; done) | (simp [*]; done)), H', ⟨by have := HK1.out; omega⟩, ⟨by (with_reducible repeat (first | refine blk_drewN ?_ _ | refine blk_drew ?_ | refine blk_alloc ?_ _)); exact BK452.out⟩, ⟨by (with_reducible repeat (first | refine blk_drewN ?_ _ | refine blk_drew ?_ | refine blk_alloc ?_ _)); exact BK453.out⟩, ⟨by repeat (first | (with_reducible first | exact HB.out | apply below_alloc | apply pw_below_drewN | apply below_drew1 | refine below_set ?_ GE452.out | refine below_set ?_ GE453.out) | exact HB.out)⟩⟩
            · rw [if_neg c18] at H
              have c18b0 : (((rd_T37 l0 x8_1).f0) == a1_0) = false := by simpa using c18
              (try (have c18b1 : decide (((rd_T37 l0 x8_1).f0) = a1_0) = false := by simpa using c18))
              (try (have c18b2 : (((rd_T37 l0 x8_1).f0) == a1_0) = false := by simpa using c18))
              (try (have c18b3 : ¬ (((rd_T37 l0 x8_1).f0) = a1_0) := by simpa using c18))
              clear c18
              have H' := Aside0.mk H
              clear H
              have p457 : 0 ≤ (x8_1 : Int) := of_decide_eq_true (by first | (with_reducible assumption) | assumption)
              have q457 : x8_1 < (l0.length : Int) := of_decide_eq_true (by first | (with_reducible assumption) | assumption)
              obtain ⟨ad457, e457, hx457_0, hx457_1, hx457_2⟩ := at_T37 HR0.out x8_1 p457 q457
              cases e457
              replace hx457_0 := (HB.out.cell (World.block_lt_of_cell? w _ hx457_0)).trans hx457_0
              replace hx457_1 := (HB.out.cell (World.block_lt_of_cell? w _ hx457_1)).trans hx457_1
              replace hx457_2 := (HB.out.cell (World.block_lt_of_cell? w _ hx457_2)).trans hx457_2
              replace p457 := eq_true p457
              replace q457 := eq_true q457
              have hnb33 := NB452_453.out
              have hnc33 := NB453_452.out
              have hcz34_0 : wr.cell? ⟨gb452, 0, none⟩ = some (.bool a1_0) := (blk_cell BK452.out 0).trans rfl
              have hcz34_1 : wr.cell? ⟨gb452, 1, none⟩ = some (.string a1_1) := (blk_cell BK452.out 1).trans rfl
              have hcz34_2 : wr.cell? ⟨gb452, 2, none⟩ = some (.int .i64 a1_2) := (blk_cell BK452.out 2).trans rfl
              have hfz34_0 := blk_frozen BK452.out 0
              have hfz34_1 := blk_frozen BK452.out 1
              have hfz34_2 := blk_frozen BK452.out 2
              go_wp2
              repeat (go_quiet (fail); try go_wp2)
              go_roundg k1
              case measure => have := HK1.out; omega
              case rel => exact ⟨(false), (wrap64 (x8_1 + 1)), (by first | rfl | (simp; done) | (simp [*]; done)), (by first | rfl | (simp; done) | (simp [*]; done)), H', ⟨by have := HK1.out; omega⟩, ⟨by (with_reducible repeat (first | refine blk_drewN ?_ _ | refine blk_drew ?_ | refine blk_alloc ?_ _)); exact BK452.out⟩, ⟨by (with_reducible repeat (first | refine blk_drewN ?_ _ | refine blk_drew ?_ | refine blk_alloc ?_ _)); exact BK453.out⟩, ⟨by repeat (first | (with_reducible first | exact HB.out | apply below_alloc | apply pw_below_drewN | apply below_drew1 | refine below_set ?_ GE452.out | refine below_set ?_ GE453.out) | exact HB.out)⟩⟩
          · rw [if_neg c17] at H
            exact absurd H (by simp)
      · rw [if_neg c6] at H
        have c6b0 : decide (x8_1 < (l0.length : Int)) = false := decide_eq_false c6
        clear c6
        obtain rfl := Option.some.inj H
        go_wp2
        repeat (go_quiet (fail); try go_wp2)
        go_ret
        exact ⟨by first | rfl | (simp [errW_none, errW_some] <;> rfl) | (simp [*, errW_none, errW_some] <;> rfl), by repeat (first | (with_reducible first | exact HB.out | apply below_alloc | apply pw_below_drewN | apply below_drew1 | refine below_set ?_ GE452.out | refine below_set ?_ GE453.out) | exact HB.out)⟩

end Go.Proofs.Ytokfalcmkmelpaa.PAll
