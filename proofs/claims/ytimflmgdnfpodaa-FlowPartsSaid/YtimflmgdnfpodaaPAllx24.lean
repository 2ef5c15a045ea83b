-- WRITTEN BY hand.py of this session, over the kit's print: a text of this seat
import Derived.Test.YtimflmgdnfpodaaPAllx0
import Derived.Test.YtimflmgdnfpodaaPAllx1
import Derived.Test.YtimflmgdnfpodaaPAllx3
import Derived.Test.YtimflmgdnfpodaaPAllx5
import Derived.Test.YtimflmgdnfpodaaPAllx6
import Derived.Test.YtimflmgdnfpodaaPAllx9
import Derived.Test.YtimflmgdnfpodaaPAllx23
namespace Go.Proofs.Ytimflmgdnfpodaa.PAll
open Go.RowKit Go.Proofs.YtimflmgdnfpodaaW.PrintWords Go.Proofs.YtimflmgdnfpodaaW.PrintLast Go.Proofs.YtimflmgdnfpodaaW.PrintMore
attribute [local go_sem] max2_int min2_int max_two min_two max_three min_three max_four min_four   -- for this text's walks alone
set_option linter.unusedVariables false
set_option linter.unusedSimpArgs false

attribute [local go_sem high] eqA29
/-! ### chaperonlaw24_FlowParts: function 5 -/
mutual
def chaperonlaw24_FlowParts.l0 : Nat → List (S40) → Bool → List (S46) → Int → Int → Option (Bool)
  | 0, _, _, _, _, _ => none
  | k + 1, x0, x3, x4, x6, x7 => if x7 < (x4.length : Int) then (if 0 ≤ x7 then (if ((rd_T46 x4 x7).f0) = x6 then (if ((rd_T46 x4 x7).f1) < x6 then (chaperonlaw24_FlowParts.j1 k x0 x3 x4 x6 x7 true) else (chaperonlaw24_FlowParts.j1 k x0 x3 x4 x6 x7 (decide (((rd_T46 x4 x7).f1) ≥ (x0.length : Int))))) else (chaperonlaw24_FlowParts.j1 k x0 x3 x4 x6 x7 true)) else (none)) else (if x3 = true then (some (x6 == (x0.length : Int))) else (none))
def chaperonlaw24_FlowParts.j1 : Nat → List (S40) → Bool → List (S46) → Int → Int → Bool → Option (Bool)
  | 0, _, _, _, _, _, _ => none
  | k + 1, x0, x3, x4, x6, x7, x67 => if x67 = true then (none) else (chaperonlaw24_FlowParts.l1 k x0 x3 x4 x7 x6)
def chaperonlaw24_FlowParts.l1 : Nat → List (S40) → Bool → List (S46) → Int → Int → Option (Bool)
  | 0, _, _, _, _, _ => none
  | k + 1, x0, x3, x4, x7, x8 => if 0 ≤ x7 then (if x7 < (x4.length : Int) then (if x8 ≤ ((rd_T46 x4 x7).f1) then ((flow_Next.f x0 x8).bind fun bt355 => (if bt355.2 = 0 then (if x8 < ((rd_T46 x4 x7).f1) then ((chaperonkit_SameInts.f k bt355.1 (([wrap64 (x8 + 1)] : List Int))).bind fun t363 => (if t363 = true then (if x8 = ((rd_T46 x4 x7).f1) then ((chaperonkit_SameInts.f k bt355.1 ((rd_T46 x4 x7).f2)).bind fun t366 => (if t366 = true then (chaperonlaw24_FlowParts.l1 k x0 x3 x4 x7 (wrap64 (x8 + 1))) else (none))) else (chaperonlaw24_FlowParts.l1 k x0 x3 x4 x7 (wrap64 (x8 + 1)))) else (none))) else (if x8 = ((rd_T46 x4 x7).f1) then ((chaperonkit_SameInts.f k bt355.1 ((rd_T46 x4 x7).f2)).bind fun t369 => (if t369 = true then (chaperonlaw24_FlowParts.l1 k x0 x3 x4 x7 (wrap64 (x8 + 1))) else (none))) else (chaperonlaw24_FlowParts.l1 k x0 x3 x4 x7 (wrap64 (x8 + 1))))) else (none))) else (chaperonlaw24_FlowParts.l0 k x0 x3 x4 (wrap64 (((rd_T46 x4 x7).f1) + 1)) (wrap64 (x7 + 1)))) else (none)) else (none)
end
def chaperonlaw24_FlowParts.f (k : Nat) (l0 : List (S40)) : Option (Bool) := (chaperonlaw24_FlowKnown.f k).bind fun t341 => (if (l0.length : Int) > 200 then (some t341) else ((flow_Parts.f l0).bind fun bt342 => (if bt342.2.1 = 0 then (chaperonlaw24_FlowParts.l0 k l0 t341 bt342.1 0 0) else (if t341 = true then ((flow_Check.f l0).bind fun bt348 => (if (bt342.2.1 == bt348.1 && (bt342.2.2 == bt348.2)) = true then (some ((bt342.1.length : Int) == 0)) else (none))) else (none)))))
theorem chaperonlaw24_FlowParts.mono_l : ∀ k, (∀ y0 y1 y2 y3 y4, LeO (chaperonlaw24_FlowParts.l0 k y0 y1 y2 y3 y4) (chaperonlaw24_FlowParts.l0 (k + 1) y0 y1 y2 y3 y4)) ∧ (∀ y0 y1 y2 y3 y4 y5, LeO (chaperonlaw24_FlowParts.j1 k y0 y1 y2 y3 y4 y5) (chaperonlaw24_FlowParts.j1 (k + 1) y0 y1 y2 y3 y4 y5)) ∧ (∀ y0 y1 y2 y3 y4, LeO (chaperonlaw24_FlowParts.l1 k y0 y1 y2 y3 y4) (chaperonlaw24_FlowParts.l1 (k + 1) y0 y1 y2 y3 y4))
  | 0 => ⟨fun _ _ _ _ _ r h => by simp [chaperonlaw24_FlowParts.l0] at h, fun _ _ _ _ _ _ r h => by simp [chaperonlaw24_FlowParts.j1] at h, fun _ _ _ _ _ r h => by simp [chaperonlaw24_FlowParts.l1] at h⟩
  | k + 1 => by
    obtain ⟨ih0, ih1, ih2⟩ := chaperonlaw24_FlowParts.mono_l k
    refine ⟨?_, ?_, ?_⟩
    · intro y0 y1 y2 y3 y4
      unfold chaperonlaw24_FlowParts.l0
      repeat' first
      | (with_reducible exact ih0 _ _ _ _ _)
      | (with_reducible exact ih1 _ _ _ _ _ _)
      | (with_reducible exact ih2 _ _ _ _ _)
      | (with_reducible exact chaperonkit_SameInts.mono _ _ _)
      | (with_reducible exact chaperonlaw24_FlowKnown.mono _)
      | (with_reducible exact LeO.refl _)
      | (with_reducible exact LeO.none _)
      | (with_reducible refine LeO.ite ?_ ?_)
      | (with_reducible refine LeO.bind ?_ (fun _ => ?_))
      | exact ih0 _ _ _ _ _
      | exact ih1 _ _ _ _ _ _
      | exact ih2 _ _ _ _ _
      | exact chaperonkit_SameInts.mono _ _ _
      | exact chaperonlaw24_FlowKnown.mono _
      | exact LeO.none _
      | refine LeO.ite ?_ ?_
      | refine LeO.bind ?_ (fun _ => ?_)
    · intro y0 y1 y2 y3 y4 y5
      unfold chaperonlaw24_FlowParts.j1
      repeat' first
      | (with_reducible exact ih0 _ _ _ _ _)
      | (with_reducible exact ih1 _ _ _ _ _ _)
      | (with_reducible exact ih2 _ _ _ _ _)
      | (with_reducible exact chaperonkit_SameInts.mono _ _ _)
      | (with_reducible exact chaperonlaw24_FlowKnown.mono _)
      | (with_reducible exact LeO.refl _)
      | (with_reducible exact LeO.none _)
      | (with_reducible refine LeO.ite ?_ ?_)
      | (with_reducible refine LeO.bind ?_ (fun _ => ?_))
      | exact ih0 _ _ _ _ _
      | exact ih1 _ _ _ _ _ _
      | exact ih2 _ _ _ _ _
      | exact chaperonkit_SameInts.mono _ _ _
      | exact chaperonlaw24_FlowKnown.mono _
      | exact LeO.none _
      | refine LeO.ite ?_ ?_
      | refine LeO.bind ?_ (fun _ => ?_)
    · intro y0 y1 y2 y3 y4
      unfold chaperonlaw24_FlowParts.l1
      repeat' first
      | (with_reducible exact ih0 _ _ _ _ _)
      | (with_reducible exact ih1 _ _ _ _ _ _)
      | (with_reducible exact ih2 _ _ _ _ _)
      | (with_reducible exact chaperonkit_SameInts.mono _ _ _)
      | (with_reducible exact chaperonlaw24_FlowKnown.mono _)
      | (with_reducible exact LeO.refl _)
      | (with_reducible exact LeO.none _)
      | (with_reducible refine LeO.ite ?_ ?_)
      | (with_reducible refine LeO.bind ?_ (fun _ => ?_))
      | exact ih0 _ _ _ _ _
      | exact ih1 _ _ _ _ _ _
      | exact ih2 _ _ _ _ _
      | exact chaperonkit_SameInts.mono _ _ _
      | exact chaperonlaw24_FlowKnown.mono _
      | exact LeO.none _
      | refine LeO.ite ?_ ?_
      | refine LeO.bind ?_ (fun _ => ?_)
theorem chaperonlaw24_FlowParts.mono : ∀ a0 k, LeO (chaperonlaw24_FlowParts.f k a0) (chaperonlaw24_FlowParts.f (k + 1) a0) := by
  intro a0 k
  obtain ⟨ih0, ih1, ih2⟩ := chaperonlaw24_FlowParts.mono_l k
  unfold chaperonlaw24_FlowParts.f
  repeat' first
      | (with_reducible exact ih0 _ _ _ _ _)
      | (with_reducible exact ih1 _ _ _ _ _ _)
      | (with_reducible exact ih2 _ _ _ _ _)
      | (with_reducible exact chaperonkit_SameInts.mono _ _ _)
      | (with_reducible exact chaperonlaw24_FlowKnown.mono _)
      | (with_reducible exact LeO.refl _)
      | (with_reducible exact LeO.none _)
      | (with_reducible refine LeO.ite ?_ ?_)
      | (with_reducible refine LeO.bind ?_ (fun _ => ?_))
      | exact ih0 _ _ _ _ _
      | exact ih1 _ _ _ _ _ _
      | exact ih2 _ _ _ _ _
      | exact chaperonkit_SameInts.mono _ _ _
      | exact chaperonlaw24_FlowKnown.mono _
      | exact LeO.none _
      | refine LeO.ite ?_ ?_
      | refine LeO.bind ?_ (fun _ => ?_)
def chaperonlaw24_FlowParts.T6 : Bool × List (List Nat × List Nat) := (true, [([], []), ([0], [0]), ([1], [1]), ([1], [1]), ([3, 1, 1], [1, 3]), ([2, 4, 1], [1, 2, 4]), ([1, 5], [1, 5]), ([6, 4], [6]), ([7], [7]), ([8, 7], [7, 8]), ([9, 7], [7, 9]), ([7, 10], [7, 10]), ([11, 7, 0, 1, 2, 3, 4, 5, 6, 7, 8, 9, 10, 11], [11])])
def chaperonlaw24_FlowParts.B6 : List Nat := [0, 1, 3, 3, 11, 31, 63, 127, 255, 511, 1023, 2047, 4095]
theorem chaperonlaw24_FlowParts.tab6 : rtab .any (opsOf Try.f5 6) = chaperonlaw24_FlowParts.T6 := by kernel_rfl
theorem chaperonlaw24_FlowParts.bits6 : waitsOk chaperonlaw24_FlowParts.T6.2 chaperonlaw24_FlowParts.B6 = true := by kernel_rfl
set_option maxHeartbeats 8000000 in
set_option maxRecDepth 100000 in
theorem chaperonlaw24_FlowParts.calls (k : Nat) (A0 : Option Addr) (c0 : Nat) (l0 : List (S40)) (r : Bool) (w : World) (hr0 : Kd.C k40 w A0 l0.length l0) (hc0 : l0.length ≤ c0) (h : chaperonlaw24_FlowParts.f k l0 = some r) :
    Calls Try.prog 5 #[.slice A0 l0.length c0] w fun e w' => e = .returned (.bool r) ∧ Below w.heap.size w w' := by
  have hu29 := Try.underlying29
  have HR0 := Aside0.mk hr0
  have HC0 := Aside0.mk hc0
  clear hr0 hc0
  have HB := Aside0.mk (Below.refl w.heap.size w)
  have H : ((chaperonlaw24_FlowKnown.f k).bind fun t341 => (if (l0.length : Int) > 200 then (some t341) else ((flow_Parts.f l0).bind fun bt342 => (if bt342.2.1 = 0 then (chaperonlaw24_FlowParts.l0 k l0 t341 bt342.1 0 0) else (if t341 = true then ((flow_Check.f l0).bind fun bt348 => (if (bt342.2.1 == bt348.1 && (bt342.2.2 == bt348.2)) = true then (some ((bt342.1.length : Int) == 0)) else (none))) else (none)))))) = some r := h
  clear h
  replace H := Option.bind_eq_some_iff.mp H
  obtain ⟨t341, A20, H⟩ := H
  replace H : (if (l0.length : Int) > 200 then (some t341) else ((flow_Parts.f l0).bind fun bt342 => (if bt342.2.1 = 0 then (chaperonlaw24_FlowParts.l0 k l0 t341 bt342.1 0 0) else (if t341 = true then ((flow_Check.f l0).bind fun bt348 => (if (bt342.2.1 == bt348.1 && (bt342.2.2 == bt348.2)) = true then (some ((bt342.1.length : Int) == 0)) else (none))) else (none))))) = some r := H
  have A2 := Aside0.mk A20
  clear A20
  by_cases c3 : (l0.length : Int) > 200
  · rw [if_pos c3] at H
    have c3b0 : decide (200 < (l0.length : Int)) = true := decide_eq_true c3
    have c3b1 : decide (200 < l0.length) = true := decide_eq_true (by omega)
    clear c3
    obtain rfl := Option.some.inj H
    go_enter Try.func5, Try.ntmps5
    go_wp2_with (first | ((with_reducible refine gate_callee (f := 4) rfl ?_); refine goesL_ (some 11) rfl rfl Try.func4 (by kernel_rfl) rfl #[] rfl (by (try simp only [List.map_toArray, List.map_cons, List.map_nil]); first | done | rfl | (simp only [List.length_drop, List.length_take]; rfl)) ?_; (with_reducible refine (chaperonlaw24_FlowKnown.calls k  t341 _ A2.out).mono ?_); rintro e w4 ⟨rfl, hb⟩; refine ⟨_, rfl, ?_⟩; have n0_ := Aside0.mk (below_step (by repeat (first | (with_reducible first | exact HB.out | apply below_alloc | apply pw_below_drewN | apply below_drew1) | exact HB.out)) hb); clear HB; have HB := n0_; clear n0_; (try clear hb); (try clear hb2); (try clear hk); (try clear hi)))
    go_ret
    exact ⟨by first | rfl | (simp [errW_none, errW_some] <;> rfl) | (simp [*, errW_none, errW_some] <;> rfl), by repeat (first | (with_reducible first | exact HB.out | apply below_alloc | apply pw_below_drewN | apply below_drew1) | exact HB.out)⟩
  · rw [if_neg c3] at H
    have c3b0 : decide (200 < (l0.length : Int)) = false := decide_eq_false c3
    have c3b1 : decide (200 < l0.length) = false := decide_eq_false (by omega)
    clear c3
    replace H := Option.bind_eq_some_iff.mp H
    obtain ⟨⟨t342, t345, t346⟩, A50, H⟩ := H
    replace H : (if t345 = 0 then (chaperonlaw24_FlowParts.l0 k l0 t341 t342 0 0) else (if t341 = true then ((flow_Check.f l0).bind fun bt348 => (if (t345 == bt348.1 && (t346 == bt348.2)) = true then (some ((t342.length : Int) == 0)) else (none))) else (none))) = some r := H
    have A5 := Aside0.mk A50
    clear A50
    by_cases c6 : t345 = 0
    · rw [if_pos c6] at H
      have c6b0 : (t345 == 0) = true := beq_iff_eq.mpr c6
      have c6b1 : (t345 != 0) = false := bne_eq_false_iff_eq.mpr c6
      clear c6
      have H' := Aside0.mk H
      clear H
      go_enter Try.func5, Try.ntmps5
      go_wp2_with (first | ((with_reducible refine gate_callee (f := 4) rfl ?_); refine goesL_ (some 11) rfl rfl Try.func4 (by kernel_rfl) rfl #[] rfl (by (try simp only [List.map_toArray, List.map_cons, List.map_nil]); first | done | rfl | (simp only [List.length_drop, List.length_take]; rfl)) ?_; (with_reducible refine (chaperonlaw24_FlowKnown.calls k  t341 _ A2.out).mono ?_); rintro e w7 ⟨rfl, hb⟩; refine ⟨_, rfl, ?_⟩; have n0_ := Aside0.mk (below_step (by repeat (first | (with_reducible first | exact HB.out | apply below_alloc | apply pw_below_drewN | apply below_drew1) | exact HB.out)) hb); clear HB; have HB := n0_; clear n0_; (try clear hb); (try clear hb2); (try clear hk); (try clear hi)) | ((with_reducible refine gate_callee (f := 13) rfl ?_); refine goesL_ (some 18) rfl rfl Try.func13 (by kernel_rfl) rfl #[.slice A0 l0.length c0] rfl (by (try simp only [List.map_toArray, List.map_cons, List.map_nil]); first | done | rfl | (simp only [List.length_drop, List.length_take]; rfl)) ?_; (with_reducible refine (flow_Parts.calls _ _ l0 t342 t345 t346 _ ?side1 ?side2 A5.out).mono ?_); (case side1 => repeat (first | exact (Kd.C_below HR0.out HB.out) | (with_reducible refine Kd.C_alloc ?_ _) | (with_reducible refine Kd.C_drewN ?_ _) | (with_reducible refine Kd.C_drew ?_))); (case side2 => exact HC0.out); rintro e w8 ⟨v343, rfl, ho0, hb⟩; refine ⟨_, rfl, ?_⟩; have n0_ := Aside0.mk (Kd.S_lower ho0 (below_size (by repeat (first | (with_reducible first | exact HB.out | apply below_alloc | apply pw_below_drewN | apply below_drew1) | exact HB.out)))); have n1_ := Aside0.mk (below_step (by repeat (first | (with_reducible first | exact HB.out | apply below_alloc | apply pw_below_drewN | apply below_drew1) | exact HB.out)) hb); clear HB; have HO344 := n0_; have HB := n1_; clear n0_ n1_; (try clear hb); (try clear hb2); (try clear hk); (try clear hi); (try clear ho0)) | ((with_reducible refine gate_dst (N := 5) rfl ?_); (try (refine gate_guard (by rfl) ?_; dsimp only)); refine box_event ?hg (N := 5) ?hd (cs := #[.int .i64 0, .int .i64 0]) (t := 29) ?hr ?_; (case hd => rfl); (case hg => rfl); (case hr => first | (go_simp; done) | (go_simp; rfl)); intro gb347 hg w9 hbox hb; have n0_ := Aside0.mk (Kd.S_below (by (with_reducible repeat (first | apply Kd.S_alloc | apply Kd.S_drewN | apply Kd.S_drew)); exact HO344.out) hb); have n1_ := Aside0.mk (below_step (by repeat (first | (with_reducible first | exact HB.out | apply below_alloc | apply pw_below_drewN | apply below_drew1) | exact HB.out)) hb); have n2_ := Aside0.mk (hbox); have n3_ := Aside0.mk ((by rw [hg]; exact (below_size (by repeat (first | (with_reducible first | exact HB.out | apply below_alloc | apply pw_below_drewN | apply below_drew1) | exact HB.out))) : w.heap.size ≤ gb347)); have n4_ := Aside0.mk ((by rw [hg]; exact (below_size (by repeat (first | (with_reducible first | exact HB.out | apply below_alloc | apply pw_below_drewN | apply below_drew1) | exact HB.out))) : w.heap.size ≤ gb347)); clear HO344; clear HB; have HO344 := n0_; have HB := n1_; have BK347 := n2_; have GW347 := n3_; have GE347 := n4_; clear n0_ n1_ n2_ n3_ n4_; clear hb hbox hg; have hcz10_0 : w9.cell? ⟨gb347, 0, none⟩ = some (.int .i64 0) := (blk_cell BK347.out 0).trans rfl; have hcz10_1 : w9.cell? ⟨gb347, 1, none⟩ = some (.int .i64 0) := (blk_cell BK347.out 1).trans rfl; have hfz10_0 := blk_frozen BK347.out 0; have hfz10_1 := blk_frozen BK347.out 1))
      go_loopg [6, 7] k (fun kq v6 v7 w' => ∃ (x6_1 : Int) (x7_1 : Int), v6 = .int .i64 x6_1 ∧ v7 = .int .i64 x7_1 ∧ Aside0 (chaperonlaw24_FlowParts.l0 kq l0 t341 t342 x6_1 x7_1 = some r) ∧ Aside0 (kq ≤ k) ∧ Aside0 (Kd.S k46 46 w' w.heap.size (fun _ => True) v343 t342) ∧ Aside0 (w'.heap[gb347]? = some (.cells #[.int .i64 t345, .int .i64 t346] 29 (0, 0))) ∧ Aside0 (Below w.heap.size w w'))
      case atStart => exact ⟨(0), (0), (by first | rfl | (simp; done) | (simp [*]; done)), (by first | rfl | (simp; done) | (simp [*]; done)), H', ⟨Nat.le_refl _⟩, ⟨by (with_reducible repeat (first | apply Kd.S_alloc | apply Kd.S_drewN | apply Kd.S_drew)); exact Kd.S_mono (Kd.S_far (p := ⟨gb347, 1, none⟩) (Kd.S_far (p := ⟨gb347, 0, none⟩) (Kd.S_types HO344.out BK347.out (by decide)) (fun _ hk => hk.2) (.int .i64 t345)) (fun _ hk => hk.2) (.int .i64 t346)) (fun _ hk => trivial)⟩, ⟨by (with_reducible repeat (first | refine blk_drewN ?_ _ | refine blk_drew ?_ | refine blk_alloc ?_ _)); refine blk_put (cs := #[.int .i64 t345, .int .i64 0]) ?_ 1 _ rfl; (with_reducible repeat (first | refine blk_drewN ?_ _ | refine blk_drew ?_ | refine blk_alloc ?_ _)); refine blk_put (cs := #[.int .i64 0, .int .i64 0]) ?_ 0 _ rfl; (with_reducible repeat (first | refine blk_drewN ?_ _ | refine blk_drew ?_ | refine blk_alloc ?_ _)); exact BK347.out⟩, ⟨by repeat (first | (with_reducible first | exact HB.out | apply below_alloc | apply pw_below_drewN | apply below_drew1 | refine below_set ?_ GE347.out) | exact HB.out)⟩⟩
      case round =>
        clear H'
        try clear c1
        try clear p2
        try clear c3
        try clear c3b0
        try clear c3b1
        try clear c4
        try clear c5
        try clear c6
        try clear c6b0
        try clear c6b1
        try clear hcz10_0
        try clear hcz10_1
        try clear hfz10_0
        try clear hfz10_1
        obtain ⟨x6_1, x7_1, rfl, rfl, HA, HK1, HO_4, BK347, HB⟩ := hrel
        cases gk with
        | zero => exact absurd HA.out (by simp [chaperonlaw24_FlowParts.l0])
        | succ k1 =>
          have H := HA.out
          clear HA
          simp only [chaperonlaw24_FlowParts.l0] at H
          by_cases c11 : x7_1 < (t342.length : Int)
          · rw [if_pos c11] at H
            have c11b0 : decide (x7_1 < (t342.length : Int)) = true := decide_eq_true c11
            clear c11
            have HC12 := Aside0.mk H
            clear H
            obtain ⟨Ao13, co13, eo13⟩ := Kd.S_slice HO_4.out
            subst eo13
            go_upto_region 11 with (fail)
            go_cut [67] (fun v67 wc => ∃ (kq : Nat) (x67_11 : Bool), v67 = .bool x67_11 ∧ Aside0 (chaperonlaw24_FlowParts.j1 kq l0 t341 t342 x6_1 x7_1 x67_11 = some r) ∧ Aside0 (kq ≤ k1) ∧ Aside0 (Kd.S k46 46 wc w.heap.size (fun _ => True) (.slice Ao13 t342.length co13) t342) ∧ Aside0 (wc.heap[gb347]? = some (.cells #[.int .i64 t345, .int .i64 t346] 29 (0, 0))) ∧ Aside0 (Below w.heap.size w wc))
            case first =>
              have H := HC12.out
              clear HC12
              by_cases c14 : 0 ≤ x7_1
              · rw [if_pos c14] at H
                have c14b0 : decide (0 ≤ x7_1) = true := decide_eq_true c14
                clear c14
                (first | rw [c14b0] | (simp only [i64_w, i32_w]; rw [c14b0]) | skip)
                by_cases c15 : ((rd_T46 t342 x7_1).f0) = x6_1
                · rw [if_pos c15] at H
                  have c15b0 : (((rd_T46 t342 x7_1).f0) == x6_1) = true := beq_iff_eq.mpr c15
                  have c15b1 : (((rd_T46 t342 x7_1).f0) != x6_1) = false := bne_eq_false_iff_eq.mpr c15
                  clear c15
                  by_cases c16 : ((rd_T46 t342 x7_1).f1) < x6_1
                  · rw [if_pos c16] at H
                    have c16b0 : decide (((rd_T46 t342 x7_1).f1) < x6_1) = true := decide_eq_true c16
                    clear c16
                    have H' := Aside0.mk H
                    clear H
                    have p350 : 0 ≤ (x7_1 : Int) := of_decide_eq_true (by first | (with_reducible assumption) | assumption)
                    have q350 : x7_1 < (t342.length : Int) := of_decide_eq_true (by first | (with_reducible assumption) | assumption)
                    obtain ⟨ad350, A350_2, c350_2, e350, hx350_0, hx350_1, hx350_2, hl350_2, hi350_2⟩ := at_T46 (Kd.S_reads' HO_4.out).2.2 x7_1 p350 q350
                    cases e350
                    obtain ⟨ce350, hce350, hMe350, hcc350⟩ := Kd.S_get HO_4.out z46 x7_1 p350 (by first | exact q350 | exact of_decide_eq_true (by first | (with_reducible assumption) | assumption) | (have e_ := (Kd.S_reads' HO_4.out).1; omega))
                    obtain ⟨ve350_2, rfl, ge350_2⟩ := k46_openM hMe350
                    have hv350_2 := hcc350 2 _ rfl
                    rw [add_field _ _ 2 (by omega)] at hv350_2
                    replace hv350_2 := Option.some.inj (hv350_2.symm.trans hx350_2)
                    rw [hv350_2] at ge350_2
                    have HL350_2 := Aside0.mk (show Kd.R (Kd.int .i64) 3 _ _ _ _ ((rd_T46 t342 x7_1).f2) from ge350_2)
                    clear hv350_2 ge350_2
                    clear hcc350 hce350
                    have HR350_2 := Aside0.mk hi350_2
                    have HC350_2 := Aside0.mk hl350_2
                    clear hi350_2 hl350_2
                    replace p350 := eq_true p350
                    replace q350 := eq_true q350
                    have p351 : 0 ≤ (x7_1 : Int) := of_decide_eq_true (by first | (with_reducible assumption) | assumption)
                    have q351 : x7_1 < (t342.length : Int) := of_decide_eq_true (by first | (with_reducible assumption) | assumption)
                    obtain ⟨ad351, A351_2, c351_2, e351, hx351_0, hx351_1, hx351_2, hl351_2, hi351_2⟩ := at_T46 (Kd.S_reads' HO_4.out).2.2 x7_1 p351 q351
                    obtain rfl : ad350 = ad351 := (by injection e351)
                    obtain ⟨ce351, hce351, hMe351, hcc351⟩ := Kd.S_get HO_4.out z46 x7_1 p351 (by first | exact q351 | exact of_decide_eq_true (by first | (with_reducible assumption) | assumption) | (have e_ := (Kd.S_reads' HO_4.out).1; omega))
                    obtain ⟨ve351_2, rfl, ge351_2⟩ := k46_openM hMe351
                    have hv351_2 := hcc351 2 _ rfl
                    rw [add_field _ _ 2 (by omega)] at hv351_2
                    replace hv351_2 := Option.some.inj (hv351_2.symm.trans hx351_2)
                    rw [hv351_2] at ge351_2
                    have HL351_2 := Aside0.mk (show Kd.R (Kd.int .i64) 3 _ _ _ _ ((rd_T46 t342 x7_1).f2) from ge351_2)
                    clear hv351_2 ge351_2
                    clear hcc351 hce351
                    have HR351_2 := Aside0.mk hi351_2
                    have HC351_2 := Aside0.mk hl351_2
                    clear hi351_2 hl351_2
                    replace p351 := eq_true p351
                    replace q351 := eq_true q351
                    have ea_ := Option.some.inj (hx350_2.symm.trans hx351_2)
                    injection ea_ with ea_ en_ ec_
                    subst ea_
                    subst ec_
                    clear en_
                    go_wp2
                    go_meet
                    case rel => exact ⟨_, (true), (by first | rfl | (simp; done) | (simp [*]; done)), H', ⟨by have := HK1.out; first | omega | exact Nat.le_refl _⟩, ⟨by (with_reducible repeat (first | apply Kd.S_alloc | apply Kd.S_drewN | apply Kd.S_drew)); exact HO_4.out⟩, ⟨by (with_reducible repeat (first | refine blk_drewN ?_ _ | refine blk_drew ?_ | refine blk_alloc ?_ _)); exact BK347.out⟩, ⟨by repeat (first | (with_reducible first | exact HB.out | apply below_alloc | apply pw_below_drewN | apply below_drew1 | refine below_set ?_ GE347.out) | exact HB.out)⟩⟩
                  · rw [if_neg c16] at H
                    have c16b0 : decide (((rd_T46 t342 x7_1).f1) < x6_1) = false := decide_eq_false c16
                    clear c16
                    have H' := Aside0.mk H
                    clear H
                    have p350 : 0 ≤ (x7_1 : Int) := of_decide_eq_true (by first | (with_reducible assumption) | assumption)
                    have q350 : x7_1 < (t342.length : Int) := of_decide_eq_true (by first | (with_reducible assumption) | assumption)
                    obtain ⟨ad350, A350_2, c350_2, e350, hx350_0, hx350_1, hx350_2, hl350_2, hi350_2⟩ := at_T46 (Kd.S_reads' HO_4.out).2.2 x7_1 p350 q350
                    cases e350
                    obtain ⟨ce350, hce350, hMe350, hcc350⟩ := Kd.S_get HO_4.out z46 x7_1 p350 (by first | exact q350 | exact of_decide_eq_true (by first | (with_reducible assumption) | assumption) | (have e_ := (Kd.S_reads' HO_4.out).1; omega))
                    obtain ⟨ve350_2, rfl, ge350_2⟩ := k46_openM hMe350
                    have hv350_2 := hcc350 2 _ rfl
                    rw [add_field _ _ 2 (by omega)] at hv350_2
                    replace hv350_2 := Option.some.inj (hv350_2.symm.trans hx350_2)
                    rw [hv350_2] at ge350_2
                    have HL350_2 := Aside0.mk (show Kd.R (Kd.int .i64) 3 _ _ _ _ ((rd_T46 t342 x7_1).f2) from ge350_2)
                    clear hv350_2 ge350_2
                    clear hcc350 hce350
                    have HR350_2 := Aside0.mk hi350_2
                    have HC350_2 := Aside0.mk hl350_2
                    clear hi350_2 hl350_2
                    replace p350 := eq_true p350
                    replace q350 := eq_true q350
                    have p351 : 0 ≤ (x7_1 : Int) := of_decide_eq_true (by first | (with_reducible assumption) | assumption)
                    have q351 : x7_1 < (t342.length : Int) := of_decide_eq_true (by first | (with_reducible assumption) | assumption)
                    obtain ⟨ad351, A351_2, c351_2, e351, hx351_0, hx351_1, hx351_2, hl351_2, hi351_2⟩ := at_T46 (Kd.S_reads' HO_4.out).2.2 x7_1 p351 q351
                    obtain rfl : ad350 = ad351 := (by injection e351)
                    obtain ⟨ce351, hce351, hMe351, hcc351⟩ := Kd.S_get HO_4.out z46 x7_1 p351 (by first | exact q351 | exact of_decide_eq_true (by first | (with_reducible assumption) | assumption) | (have e_ := (Kd.S_reads' HO_4.out).1; omega))
                    obtain ⟨ve351_2, rfl, ge351_2⟩ := k46_openM hMe351
                    have hv351_2 := hcc351 2 _ rfl
                    rw [add_field _ _ 2 (by omega)] at hv351_2
                    replace hv351_2 := Option.some.inj (hv351_2.symm.trans hx351_2)
                    rw [hv351_2] at ge351_2
                    have HL351_2 := Aside0.mk (show Kd.R (Kd.int .i64) 3 _ _ _ _ ((rd_T46 t342 x7_1).f2) from ge351_2)
                    clear hv351_2 ge351_2
                    clear hcc351 hce351
                    have HR351_2 := Aside0.mk hi351_2
                    have HC351_2 := Aside0.mk hl351_2
                    clear hi351_2 hl351_2
                    replace p351 := eq_true p351
                    replace q351 := eq_true q351
                    have ea_ := Option.some.inj (hx350_2.symm.trans hx351_2)
                    injection ea_ with ea_ en_ ec_
                    subst ea_
                    subst ec_
                    clear en_
                    have p352 : 0 ≤ (x7_1 : Int) := of_decide_eq_true (by first | (with_reducible assumption) | assumption)
                    have q352 : x7_1 < (t342.length : Int) := of_decide_eq_true (by first | (with_reducible assumption) | assumption)
                    obtain ⟨ad352, A352_2, c352_2, e352, hx352_0, hx352_1, hx352_2, hl352_2, hi352_2⟩ := at_T46 (Kd.S_reads' HO_4.out).2.2 x7_1 p352 q352
                    obtain rfl : ad350 = ad352 := (by injection e352)
                    obtain ⟨ce352, hce352, hMe352, hcc352⟩ := Kd.S_get HO_4.out z46 x7_1 p352 (by first | exact q352 | exact of_decide_eq_true (by first | (with_reducible assumption) | assumption) | (have e_ := (Kd.S_reads' HO_4.out).1; omega))
                    obtain ⟨ve352_2, rfl, ge352_2⟩ := k46_openM hMe352
                    have hv352_2 := hcc352 2 _ rfl
                    rw [add_field _ _ 2 (by omega)] at hv352_2
                    replace hv352_2 := Option.some.inj (hv352_2.symm.trans hx352_2)
                    rw [hv352_2] at ge352_2
                    have HL352_2 := Aside0.mk (show Kd.R (Kd.int .i64) 3 _ _ _ _ ((rd_T46 t342 x7_1).f2) from ge352_2)
                    clear hv352_2 ge352_2
                    clear hcc352 hce352
                    have HR352_2 := Aside0.mk hi352_2
                    have HC352_2 := Aside0.mk hl352_2
                    clear hi352_2 hl352_2
                    replace p352 := eq_true p352
                    replace q352 := eq_true q352
                    have ea_ := Option.some.inj (hx350_2.symm.trans hx352_2)
                    injection ea_ with ea_ en_ ec_
                    subst ea_
                    subst ec_
                    clear en_
                    go_wp2
                    go_meet
                    case rel => exact ⟨_, (decide (((rd_T46 t342 x7_1).f1) ≥ (l0.length : Int))), (by first | rfl | (simp; done) | (simp [*]; done)), H', ⟨by have := HK1.out; first | omega | exact Nat.le_refl _⟩, ⟨by (with_reducible repeat (first | apply Kd.S_alloc | apply Kd.S_drewN | apply Kd.S_drew)); exact HO_4.out⟩, ⟨by (with_reducible repeat (first | refine blk_drewN ?_ _ | refine blk_drew ?_ | refine blk_alloc ?_ _)); exact BK347.out⟩, ⟨by repeat (first | (with_reducible first | exact HB.out | apply below_alloc | apply pw_below_drewN | apply below_drew1 | refine below_set ?_ GE347.out) | exact HB.out)⟩⟩
                · rw [if_neg c15] at H
                  have c15b0 : (((rd_T46 t342 x7_1).f0) == x6_1) = false := beq_eq_false_iff_ne.mpr c15
                  have c15b1 : (((rd_T46 t342 x7_1).f0) != x6_1) = true := bne_iff_ne.mpr c15
                  have H' := Aside0.mk H
                  clear H
                  have p350 : 0 ≤ (x7_1 : Int) := of_decide_eq_true (by first | (with_reducible assumption) | assumption)
                  have q350 : x7_1 < (t342.length : Int) := of_decide_eq_true (by first | (with_reducible assumption) | assumption)
                  obtain ⟨ad350, A350_2, c350_2, e350, hx350_0, hx350_1, hx350_2, hl350_2, hi350_2⟩ := at_T46 (Kd.S_reads' HO_4.out).2.2 x7_1 p350 q350
                  cases e350
                  obtain ⟨ce350, hce350, hMe350, hcc350⟩ := Kd.S_get HO_4.out z46 x7_1 p350 (by first | exact q350 | exact of_decide_eq_true (by first | (with_reducible assumption) | assumption) | (have e_ := (Kd.S_reads' HO_4.out).1; omega))
                  obtain ⟨ve350_2, rfl, ge350_2⟩ := k46_openM hMe350
                  have hv350_2 := hcc350 2 _ rfl
                  rw [add_field _ _ 2 (by omega)] at hv350_2
                  replace hv350_2 := Option.some.inj (hv350_2.symm.trans hx350_2)
                  rw [hv350_2] at ge350_2
                  have HL350_2 := Aside0.mk (show Kd.R (Kd.int .i64) 3 _ _ _ _ ((rd_T46 t342 x7_1).f2) from ge350_2)
                  clear hv350_2 ge350_2
                  clear hcc350 hce350
                  have HR350_2 := Aside0.mk hi350_2
                  have HC350_2 := Aside0.mk hl350_2
                  clear hi350_2 hl350_2
                  replace p350 := eq_true p350
                  replace q350 := eq_true q350
                  go_wp2
                  go_meet
                  case rel => exact ⟨_, (true), (by first | rfl | (simp; done) | (simp [*]; done)), H', ⟨by have := HK1.out; first | omega | exact Nat.le_refl _⟩, ⟨by (with_reducible repeat (first | apply Kd.S_alloc | apply Kd.S_drewN | apply Kd.S_drew)); exact HO_4.out⟩, ⟨by (with_reducible repeat (first | refine blk_drewN ?_ _ | refine blk_drew ?_ | refine blk_alloc ?_ _)); exact BK347.out⟩, ⟨by repeat (first | (with_reducible first | exact HB.out | apply below_alloc | apply pw_below_drewN | apply below_drew1 | refine below_set ?_ GE347.out) | exact HB.out)⟩⟩
              · rw [if_neg c14] at H
                exact absurd H (by simp)
            case rest =>
              clear HC12
              try clear c1
              try clear p2
              try clear c3
              try clear c3b0
              try clear c3b1
              try clear p3
              try clear q3
              try clear hx3
              try clear c4
              try clear c5
              try clear c6
              try clear c6b0
              try clear c6b1
              try clear c11
              try clear c11b0
              try clear c13
              try clear c14
              try clear c14b0
              try clear c15
              try clear c15b0
              try clear c15b1
              try clear c16
              try clear c16b0
              try clear hcz10_0
              try clear hcz10_1
              try clear hfz10_0
              try clear hfz10_1
              try clear hx350_0
              try clear hx350_1
              try clear hx350_2
              try clear hx351_0
              try clear hx351_1
              try clear hx351_2
              try clear hx352_0
              try clear hx352_1
              try clear hx352_2
              try clear p2
              try clear p350
              try clear p351
              try clear p352
              try clear q350
              try clear q351
              try clear q352
              obtain ⟨kq, x67_11, rfl, HA, HJ11, HO_4, BK347, HB⟩ := hcut
              cases kq with
              | zero => exact absurd HA.out (by simp [chaperonlaw24_FlowParts.j1])
              | succ kj11 =>
                have H := HA.out
                clear HA
                simp only [chaperonlaw24_FlowParts.j1] at H
                by_cases c17 : x67_11 = true
                · subst c17
                  have H1 : (none) = some r := by rw [if_pos rfl] at H; exact H
                  clear H
                  have H := H1
                  clear H1
                  exact absurd H (by simp)
                · replace c17 := Bool.eq_false_iff.mpr c17
                  subst c17
                  have H1 : (chaperonlaw24_FlowParts.l1 kj11 l0 t341 t342 x7_1 x6_1) = some r := by rw [if_neg (show ¬ (false = true) by decide)] at H; exact H
                  clear H
                  have H := H1
                  clear H1
                  have H' := Aside0.mk H
                  clear H
                  go_wp2
                  go_loopg [8] kj11 (fun kq v8 w' => ∃ (x8_3 : Int), v8 = .int .i64 x8_3 ∧ Aside0 (chaperonlaw24_FlowParts.l1 kq l0 t341 t342 x7_1 x8_3 = some r) ∧ Aside0 (kq ≤ kj11) ∧ Aside0 (Kd.S k46 46 w' w.heap.size (fun _ => True) (.slice Ao13 t342.length co13) t342) ∧ Aside0 (w'.heap[gb347]? = some (.cells #[.int .i64 t345, .int .i64 t346] 29 (0, 0))) ∧ Aside0 (Below w.heap.size w w'))
                  case atStart => exact ⟨(x6_1), (by first | rfl | (simp; done) | (simp [*]; done)), H', ⟨Nat.le_refl _⟩, ⟨by (with_reducible repeat (first | apply Kd.S_alloc | apply Kd.S_drewN | apply Kd.S_drew)); exact HO_4.out⟩, ⟨by (with_reducible repeat (first | refine blk_drewN ?_ _ | refine blk_drew ?_ | refine blk_alloc ?_ _)); exact BK347.out⟩, ⟨by repeat (first | (with_reducible first | exact HB.out | apply below_alloc | apply pw_below_drewN | apply below_drew1 | refine below_set ?_ GE347.out) | exact HB.out)⟩⟩
                  case round =>
                    clear H'
                    try clear c1
                    try clear p2
                    try clear c3
                    try clear c3b0
                    try clear c3b1
                    try clear p3
                    try clear q3
                    try clear hx3
                    try clear c4
                    try clear c5
                    try clear c6
                    try clear c6b0
                    try clear c6b1
                    try clear c11
                    try clear c11b0
                    try clear c13
                    try clear c14
                    try clear c14b0
                    try clear c15
                    try clear c15b0
                    try clear c15b1
                    try clear c16
                    try clear c16b0
                    try clear c17
                    try clear hcz10_0
                    try clear hcz10_1
                    try clear hfz10_0
                    try clear hfz10_1
                    try clear hx350_0
                    try clear hx350_1
                    try clear hx350_2
                    try clear hx351_0
                    try clear hx351_1
                    try clear hx351_2
                    try clear hx352_0
                    try clear hx352_1
                    try clear hx352_2
                    try clear p2
                    try clear p3
                    try clear p350
                    try clear p351
                    try clear p352
                    try clear q3
                    try clear q350
                    try clear q351
                    try clear q352
                    obtain ⟨x8_3, rfl, HA, HK3, HO_4, BK347, HB⟩ := hrel
                    cases gk with
                    | zero => exact absurd HA.out (by simp [chaperonlaw24_FlowParts.l1])
                    | succ k3 =>
                      have H := HA.out
                      clear HA
                      simp only [chaperonlaw24_FlowParts.l1] at H
                      by_cases c18 : 0 ≤ x7_1
                      · rw [if_pos c18] at H
                        have c18b0 : decide (0 ≤ x7_1) = true := decide_eq_true c18
                        clear c18
                        by_cases c19 : x7_1 < (t342.length : Int)
                        · rw [if_pos c19] at H
                          have c19b0 : decide (x7_1 < (t342.length : Int)) = true := decide_eq_true c19
                          clear c19
                          by_cases c20 : x8_3 ≤ ((rd_T46 t342 x7_1).f1)
                          · rw [if_pos c20] at H
                            have c20b0 : decide (x8_3 ≤ ((rd_T46 t342 x7_1).f1)) = true := decide_eq_true c20
                            clear c20
                            replace H := Option.bind_eq_some_iff.mp H
                            obtain ⟨⟨t355, t356⟩, A210, H⟩ := H
                            replace H : (if t356 = 0 then (if x8_3 < ((rd_T46 t342 x7_1).f1) then ((chaperonkit_SameInts.f k3 t355 (([wrap64 (x8_3 + 1)] : List Int))).bind fun t363 => (if t363 = true then (if x8_3 = ((rd_T46 t342 x7_1).f1) then ((chaperonkit_SameInts.f k3 t355 ((rd_T46 t342 x7_1).f2)).bind fun t366 => (if t366 = true then (chaperonlaw24_FlowParts.l1 k3 l0 t341 t342 x7_1 (wrap64 (x8_3 + 1))) else (none))) else (chaperonlaw24_FlowParts.l1 k3 l0 t341 t342 x7_1 (wrap64 (x8_3 + 1)))) else (none))) else (if x8_3 = ((rd_T46 t342 x7_1).f1) then ((chaperonkit_SameInts.f k3 t355 ((rd_T46 t342 x7_1).f2)).bind fun t369 => (if t369 = true then (chaperonlaw24_FlowParts.l1 k3 l0 t341 t342 x7_1 (wrap64 (x8_3 + 1))) else (none))) else (chaperonlaw24_FlowParts.l1 k3 l0 t341 t342 x7_1 (wrap64 (x8_3 + 1))))) else (none)) = some r := H
                            have A21 := Aside0.mk A210
                            clear A210
                            by_cases c22 : t356 = 0
                            · rw [if_pos c22] at H
                              have c22b0 : (t356 == 0) = true := beq_iff_eq.mpr c22
                              have c22b1 : (t356 != 0) = false := bne_eq_false_iff_eq.mpr c22
                              clear c22
                              by_cases c23 : x8_3 < ((rd_T46 t342 x7_1).f1)
                              · rw [if_pos c23] at H
                                have c23b0 : decide (x8_3 < ((rd_T46 t342 x7_1).f1)) = true := decide_eq_true c23
                                clear c23
                                obtain ⟨y360, hy360⟩ : ∃ y_ : List Int, y_ = (([wrap64 (x8_3 + 1)] : List Int)) := ⟨_, rfl⟩
                                replace H : ((chaperonkit_SameInts.f k3 t355 y360).bind fun t363 => (if t363 = true then (if x8_3 = ((rd_T46 t342 x7_1).f1) then ((chaperonkit_SameInts.f k3 t355 ((rd_T46 t342 x7_1).f2)).bind fun t366 => (if t366 = true then (chaperonlaw24_FlowParts.l1 k3 l0 t341 t342 x7_1 (wrap64 (x8_3 + 1))) else (none))) else (chaperonlaw24_FlowParts.l1 k3 l0 t341 t342 x7_1 (wrap64 (x8_3 + 1)))) else (none))) = some r := by first | (rw [hy360]; with_reducible exact H) | (have H2_ := (Option.bind_some _ _).symm.trans H; rw [hy360]; with_reducible exact H2_) | (have H2_ := (Option.bind_some _ _).symm.trans H; with_reducible exact H2_) | with_reducible exact H | (rw [hy360]; exact H) | exact H
                                have Ny360 := Aside0.mk hy360
                                clear hy360
                                replace H := Option.bind_eq_some_iff.mp H
                                obtain ⟨t363, A240, H⟩ := H
                                replace H : (if t363 = true then (if x8_3 = ((rd_T46 t342 x7_1).f1) then ((chaperonkit_SameInts.f k3 t355 ((rd_T46 t342 x7_1).f2)).bind fun t366 => (if t366 = true then (chaperonlaw24_FlowParts.l1 k3 l0 t341 t342 x7_1 (wrap64 (x8_3 + 1))) else (none))) else (chaperonlaw24_FlowParts.l1 k3 l0 t341 t342 x7_1 (wrap64 (x8_3 + 1)))) else (none)) = some r := H
                                have A24 := Aside0.mk A240
                                clear A240
                                by_cases c25 : t363 = true
                                · subst c25
                                  have H1 : (if x8_3 = ((rd_T46 t342 x7_1).f1) then ((chaperonkit_SameInts.f k3 t355 ((rd_T46 t342 x7_1).f2)).bind fun t366 => (if t366 = true then (chaperonlaw24_FlowParts.l1 k3 l0 t341 t342 x7_1 (wrap64 (x8_3 + 1))) else (none))) else (chaperonlaw24_FlowParts.l1 k3 l0 t341 t342 x7_1 (wrap64 (x8_3 + 1)))) = some r := by rw [if_pos rfl] at H; exact H
                                  clear H
                                  have H := H1
                                  clear H1
                                  by_cases c26 : x8_3 = ((rd_T46 t342 x7_1).f1)
                                  · rw [if_pos c26] at H
                                    have c26b0 : (x8_3 == ((rd_T46 t342 x7_1).f1)) = true := beq_iff_eq.mpr c26
                                    have c26b1 : (x8_3 != ((rd_T46 t342 x7_1).f1)) = false := bne_eq_false_iff_eq.mpr c26
                                    clear c26
                                    replace H := Option.bind_eq_some_iff.mp H
                                    obtain ⟨t366, A270, H⟩ := H
                                    replace H : (if t366 = true then (chaperonlaw24_FlowParts.l1 k3 l0 t341 t342 x7_1 (wrap64 (x8_3 + 1))) else (none)) = some r := H
                                    have A27 := Aside0.mk A270
                                    clear A270
                                    by_cases c28 : t366 = true
                                    · subst c28
                                      have H1 : (chaperonlaw24_FlowParts.l1 k3 l0 t341 t342 x7_1 (wrap64 (x8_3 + 1))) = some r := by rw [if_pos rfl] at H; exact H
                                      clear H
                                      have H := H1
                                      clear H1
                                      have H' := Aside0.mk H
                                      clear H
                                      have p353 : 0 ≤ (x7_1 : Int) := of_decide_eq_true (by first | (with_reducible assumption) | assumption)
                                      have q353 : x7_1 < (t342.length : Int) := of_decide_eq_true (by first | (with_reducible assumption) | assumption)
                                      obtain ⟨ad353, A353_2, c353_2, e353, hx353_0, hx353_1, hx353_2, hl353_2, hi353_2⟩ := at_T46 (Kd.S_reads' HO_4.out).2.2 x7_1 p353 q353
                                      cases e353
                                      obtain ⟨ce353, hce353, hMe353, hcc353⟩ := Kd.S_get HO_4.out z46 x7_1 p353 (by first | exact q353 | exact of_decide_eq_true (by first | (with_reducible assumption) | assumption) | (have e_ := (Kd.S_reads' HO_4.out).1; omega))
                                      obtain ⟨ve353_2, rfl, ge353_2⟩ := k46_openM hMe353
                                      have hv353_2 := hcc353 2 _ rfl
                                      rw [add_field _ _ 2 (by omega)] at hv353_2
                                      replace hv353_2 := Option.some.inj (hv353_2.symm.trans hx353_2)
                                      rw [hv353_2] at ge353_2
                                      have HL353_2 := Aside0.mk (show Kd.R (Kd.int .i64) 3 _ _ _ _ ((rd_T46 t342 x7_1).f2) from ge353_2)
                                      clear hv353_2 ge353_2
                                      clear hcc353 hce353
                                      have HR353_2 := Aside0.mk hi353_2
                                      have HC353_2 := Aside0.mk hl353_2
                                      clear hi353_2 hl353_2
                                      replace p353 := eq_true p353
                                      replace q353 := eq_true q353
                                      have Tk1_ := Aside0.mk True.intro
                                      have Tk2_ := Aside0.mk True.intro
                                      go_wp2_with (first | ((with_reducible refine gate_callee (f := 9) rfl ?_); refine goesL_ (some 81) rfl rfl Try.func9 (by kernel_rfl) rfl #[.slice A0 l0.length c0, .int .i64 x8_3] rfl (by (try simp only [List.map_toArray, List.map_cons, List.map_nil]); first | done | rfl | (simp only [List.length_drop, List.length_take]; rfl)) ?_; (with_reducible refine (flow_Next.calls _ _ l0 x8_3 t355 t356 _ ?side1 ?side2 A21.out).mono ?_); (case side1 => repeat (first | exact (Kd.C_below HR0.out HB.out) | (with_reducible refine Kd.C_alloc ?_ _) | (with_reducible refine Kd.C_drewN ?_ _) | (with_reducible refine Kd.C_drew ?_))); (case side2 => exact HC0.out); rintro e w29 ⟨v357, rfl, ho0, hb⟩; refine ⟨_, rfl, ?_⟩; have n0_ := Aside0.mk (Kd.S_elder' (by (with_reducible repeat (first | apply Kd.S_alloc | apply Kd.S_drewN | apply Kd.S_drew)); exact HO_4.out) (Kd.R_base ho0) hb); have n1_ := Aside0.mk (Kd.R_elder' (by (with_reducible repeat (first | apply Kd.R_alloc | apply Kd.R_drewN | apply Kd.R_drew)); exact HL353_2.out) (Kd.R_base ho0) hb); have n2_ := Aside0.mk (Kd.R_lower (Kd.R_new' ho0 (Kd.R_lt (by (with_reducible repeat (first | apply Kd.R_alloc | apply Kd.R_drewN | apply Kd.R_drew)); exact HL353_2.out))) (below_size (by repeat (first | (with_reducible first | exact HB.out | apply below_alloc | apply pw_below_drewN | apply below_drew1 | refine below_set ?_ GE347.out) | exact HB.out)))); have n3_ := Aside0.mk (blk_below (g := gb347) (o := .cells #[.int .i64 t345, .int .i64 t346] 29 (0, 0)) (by (with_reducible repeat (first | refine blk_drewN ?_ _ | refine blk_drew ?_ | refine blk_alloc ?_ _)); exact BK347.out) hb); have n4_ := Aside0.mk (Kd.C_below (by repeat (first | (with_reducible exact HR353_2.out) | (with_reducible refine Kd.C_alloc ?_ _) | (with_reducible refine Kd.C_drewN ?_ _) | (with_reducible refine Kd.C_drew ?_) | exact HR353_2.out)) hb); have n5_ := Aside0.mk (below_step (by repeat (first | (with_reducible first | exact HB.out | apply below_alloc | apply pw_below_drewN | apply below_drew1 | refine below_set ?_ GE347.out) | exact HB.out)) hb); clear HO_4; clear HL353_2; clear BK347; clear HR353_2; clear HB; have HO_4 := n0_; have HL353_2 := n1_; have HO358 := n2_; have BK347 := n3_; have HR353_2 := n4_; have HB := n5_; clear n0_ n1_ n2_ n3_ n4_ n5_; (try clear hb); (try clear hb2); (try clear hk); (try clear hi); (try clear ho0); have p359 : 0 ≤ (x7_1 : Int) := of_decide_eq_true (by first | (with_reducible assumption) | assumption); have q359 : x7_1 < (t342.length : Int) := of_decide_eq_true (by first | (with_reducible assumption) | assumption); obtain ⟨ad359, A359_2, c359_2, e359, hx359_0, hx359_1, hx359_2, hl359_2, hi359_2⟩ := at_T46 (Kd.S_reads' HO_4.out).2.2 x7_1 p359 q359; obtain rfl : ad353 = ad359 := (by injection e359); obtain ⟨ce359, hce359, hMe359, hcc359⟩ := Kd.S_get HO_4.out z46 x7_1 p359 (by first | exact q359 | exact of_decide_eq_true (by first | (with_reducible assumption) | assumption) | (have e_ := (Kd.S_reads' HO_4.out).1; omega)); obtain ⟨ve359_2, rfl, ge359_2⟩ := k46_openM hMe359; have hv359_2 := hcc359 2 _ rfl; rw [add_field _ _ 2 (by omega)] at hv359_2; replace hv359_2 := Option.some.inj (hv359_2.symm.trans hx359_2); rw [hv359_2] at ge359_2; have HL359_2 := Aside0.mk (show Kd.R (Kd.int .i64) 3 _ _ _ _ ((rd_T46 t342 x7_1).f2) from ge359_2); clear hv359_2 ge359_2; clear hcc359 hce359; have HR359_2 := Aside0.mk hi359_2; have HC359_2 := Aside0.mk hl359_2; clear hi359_2 hl359_2; replace p359 := eq_true p359; replace q359 := eq_true q359) | ((with_reducible refine gate_dst (N := 98) rfl ?_); (try (refine gate_guard (by rfl) ?_; dsimp only)); refine Kd.R_lit (Kd.int .i64) _ 3 ?hg (N := 98) ?hd (xs := ([wrap64 (x8_3 + 1)] : List Int)) (inner := [.int .i64 (wrap64 (x8_3 + 1))]) (ok := fun _ => True) (okp := fun _ => True) ?hr ?hp (fun _ hk => hk) trivial (Below.refl _ _) (Nat.le_refl _) (by simp) ?_; (case hd => rfl); (case hg => rfl); (case hr => first | (go_simp; done) | (go_simp; rfl)); (case hp => exact (Reps.one (show Kd.M (Kd.int .i64) _ _ _ (wrap64 (x8_3 + 1)) [.int .i64 (wrap64 (x8_3 + 1))] from rfl) (Reps.none _ _))); intro v361 w30 ho31 hb hg_ hnew_; clear hg_ hnew_; (first | rw [← Ny360.out] at ho31 | (simp only [Int.reduceToNat] at ho31; rw [← Ny360.out] at ho31)); have n0_ := Aside0.mk (Kd.S_elder' (by (with_reducible repeat (first | apply Kd.S_alloc | apply Kd.S_drewN | apply Kd.S_drew)); exact HO_4.out) (Kd.R_base ho31) hb); have n1_ := Aside0.mk (Kd.R_elder' (by (with_reducible repeat (first | apply Kd.R_alloc | apply Kd.R_drewN | apply Kd.R_drew)); exact HL353_2.out) (Kd.R_base ho31) hb); have n2_ := Aside0.mk (Kd.R_elder' (by (with_reducible repeat (first | apply Kd.R_alloc | apply Kd.R_drewN | apply Kd.R_drew)); exact HO358.out) (Kd.R_base ho31) hb); have n3_ := Aside0.mk (Kd.R_elder' (by (with_reducible repeat (first | apply Kd.R_alloc | apply Kd.R_drewN | apply Kd.R_drew)); exact HL359_2.out) (Kd.R_base ho31) hb); have n4_ := Aside0.mk (Kd.R_lower (Kd.R_new' (Kd.R_new' (Kd.R_new' ho31 (Kd.R_lt (by (with_reducible repeat (first | apply Kd.R_alloc | apply Kd.R_drewN | apply Kd.R_drew)); exact HL353_2.out))) (Kd.R_lt (by (with_reducible repeat (first | apply Kd.R_alloc | apply Kd.R_drewN | apply Kd.R_drew)); exact HO358.out))) (Kd.R_lt (by (with_reducible repeat (first | apply Kd.R_alloc | apply Kd.R_drewN | apply Kd.R_drew)); exact HL359_2.out))) (below_size (by repeat (first | (with_reducible first | exact HB.out | apply below_alloc | apply pw_below_drewN | apply below_drew1 | refine below_set ?_ GE347.out) | exact HB.out)))); have n5_ := Aside0.mk (blk_below (g := gb347) (o := .cells #[.int .i64 t345, .int .i64 t346] 29 (0, 0)) (by (with_reducible repeat (first | refine blk_drewN ?_ _ | refine blk_drew ?_ | refine blk_alloc ?_ _)); exact BK347.out) hb); have n6_ := Aside0.mk (Kd.C_below (by repeat (first | (with_reducible exact HR353_2.out) | (with_reducible refine Kd.C_alloc ?_ _) | (with_reducible refine Kd.C_drewN ?_ _) | (with_reducible refine Kd.C_drew ?_) | exact HR353_2.out)) hb); have n7_ := Aside0.mk (Kd.C_below (by repeat (first | (with_reducible exact HR359_2.out) | (with_reducible refine Kd.C_alloc ?_ _) | (with_reducible refine Kd.C_drewN ?_ _) | (with_reducible refine Kd.C_drew ?_) | exact HR359_2.out)) hb); have n8_ := Aside0.mk (below_step (by repeat (first | (with_reducible first | exact HB.out | apply below_alloc | apply pw_below_drewN | apply below_drew1 | refine below_set ?_ GE347.out) | exact HB.out)) hb); clear HO_4; clear HL353_2; clear HO358; clear HL359_2; clear BK347; clear HR353_2; clear HR359_2; clear HB; have HO_4 := n0_; have HL353_2 := n1_; have HO358 := n2_; have HL359_2 := n3_; have HO362 := n4_; have BK347 := n5_; have HR353_2 := n6_; have HR359_2 := n7_; have HB := n8_; clear n0_ n1_ n2_ n3_ n4_ n5_ n6_ n7_ n8_; clear hb ho31; obtain ⟨Ao32, co32, eo32⟩ := Kd.R_slice HO358.out; subst eo32; obtain ⟨Ao33, co33, eo33⟩ := Kd.R_slice HO362.out; subst eo33) | (clear Tk1_; go_at_call 17; (with_reducible refine (chaperonkit_SameInts.calls k3 _ _ t355 _ _ y360 true _ ?side1 ?side2 ?side3 ?side4 A24.out).mono ?_); (case side1 => repeat (first | exact (Kd.R_reads' HO358.out).2.2 | (with_reducible refine Kd.C_alloc ?_ _) | (with_reducible refine Kd.C_drewN ?_ _) | (with_reducible refine Kd.C_drew ?_))); (case side2 => exact (Kd.R_reads' HO358.out).2.1); (case side3 => repeat (first | exact (Kd.R_reads' HO362.out).2.2 | (with_reducible refine Kd.C_alloc ?_ _) | (with_reducible refine Kd.C_drewN ?_ _) | (with_reducible refine Kd.C_drew ?_))); (case side4 => exact (Kd.R_reads' HO362.out).2.1); rintro e w' ⟨rfl, ⟨nd, rfl⟩⟩; have p364 : 0 ≤ (x7_1 : Int) := of_decide_eq_true (by first | (with_reducible assumption) | assumption); have q364 : x7_1 < (t342.length : Int) := of_decide_eq_true (by first | (with_reducible assumption) | assumption); obtain ⟨ad364, A364_2, c364_2, e364, hx364_0, hx364_1, hx364_2, hl364_2, hi364_2⟩ := at_T46 (Kd.S_reads' HO_4.out).2.2 x7_1 p364 q364; obtain rfl : ad353 = ad364 := (by injection e364); obtain ⟨ce364, hce364, hMe364, hcc364⟩ := Kd.S_get HO_4.out z46 x7_1 p364 (by first | exact q364 | exact of_decide_eq_true (by first | (with_reducible assumption) | assumption) | (have e_ := (Kd.S_reads' HO_4.out).1; omega)); obtain ⟨ve364_2, rfl, ge364_2⟩ := k46_openM hMe364; have hv364_2 := hcc364 2 _ rfl; rw [add_field _ _ 2 (by omega)] at hv364_2; replace hv364_2 := Option.some.inj (hv364_2.symm.trans hx364_2); rw [hv364_2] at ge364_2; have HL364_2 := Aside0.mk (show Kd.R (Kd.int .i64) 3 _ _ _ _ ((rd_T46 t342 x7_1).f2) from ge364_2); clear hv364_2 ge364_2; clear hcc364 hce364; have HR364_2 := Aside0.mk hi364_2; have HC364_2 := Aside0.mk hl364_2; clear hi364_2 hl364_2; replace p364 := eq_true p364; replace q364 := eq_true q364; have p365 : 0 ≤ (x7_1 : Int) := of_decide_eq_true (by first | (with_reducible assumption) | assumption); have q365 : x7_1 < (t342.length : Int) := of_decide_eq_true (by first | (with_reducible assumption) | assumption); obtain ⟨ad365, A365_2, c365_2, e365, hx365_0, hx365_1, hx365_2, hl365_2, hi365_2⟩ := at_T46 (Kd.S_reads' HO_4.out).2.2 x7_1 p365 q365; obtain rfl : ad353 = ad365 := (by injection e365); obtain ⟨ce365, hce365, hMe365, hcc365⟩ := Kd.S_get HO_4.out z46 x7_1 p365 (by first | exact q365 | exact of_decide_eq_true (by first | (with_reducible assumption) | assumption) | (have e_ := (Kd.S_reads' HO_4.out).1; omega)); obtain ⟨ve365_2, rfl, ge365_2⟩ := k46_openM hMe365; have hv365_2 := hcc365 2 _ rfl; rw [add_field _ _ 2 (by omega)] at hv365_2; replace hv365_2 := Option.some.inj (hv365_2.symm.trans hx365_2); rw [hv365_2] at ge365_2; have HL365_2 := Aside0.mk (show Kd.R (Kd.int .i64) 3 _ _ _ _ ((rd_T46 t342 x7_1).f2) from ge365_2); clear hv365_2 ge365_2; clear hcc365 hce365; have HR365_2 := Aside0.mk hi365_2; have HC365_2 := Aside0.mk hl365_2; clear hi365_2 hl365_2; replace p365 := eq_true p365; replace q365 := eq_true q365; have ea_ := Option.some.inj (hx364_2.symm.trans hx365_2); injection ea_ with ea_ en_ ec_; subst ea_; subst ec_; clear en_) | (clear Tk2_; go_at_call 17; (with_reducible refine (chaperonkit_SameInts.calls k3 _ _ t355 _ _ ((rd_T46 t342 x7_1).f2) true _ ?side1 ?side2 ?side3 ?side4 A27.out).mono ?_); (case side1 => repeat (first | exact (Kd.R_reads' HO358.out).2.2 | (with_reducible refine Kd.C_alloc ?_ _) | (with_reducible refine Kd.C_drewN ?_ _) | (with_reducible refine Kd.C_drew ?_))); (case side2 => exact (Kd.R_reads' HO358.out).2.1); (case side3 => repeat (first | exact (by repeat (first | (with_reducible exact HR365_2.out) | (with_reducible refine Kd.C_alloc ?_ _) | (with_reducible refine Kd.C_drewN ?_ _) | (with_reducible refine Kd.C_drew ?_) | exact HR365_2.out)) | (with_reducible refine Kd.C_alloc ?_ _) | (with_reducible refine Kd.C_drewN ?_ _) | (with_reducible refine Kd.C_drew ?_))); (case side4 => exact HC365_2.out); rintro e w' ⟨rfl, ⟨nd, rfl⟩⟩))
                                      go_roundg k3
                                      case measure => have := HK1.out; have := HJ11.out; have := HK3.out; omega
                                      case rel => exact ⟨(wrap64 (x8_3 + 1)), (by first | rfl | (simp; done) | (simp [*]; done)), H', ⟨by have := HK1.out; have := HJ11.out; have := HK3.out; omega⟩, ⟨by (with_reducible repeat (first | apply Kd.S_alloc | apply Kd.S_drewN | apply Kd.S_drew)); exact Kd.S_mono HO_4.out (fun _ hk => trivial)⟩, ⟨by (with_reducible repeat (first | refine blk_drewN ?_ _ | refine blk_drew ?_ | refine blk_alloc ?_ _)); exact BK347.out⟩, ⟨by repeat (first | (with_reducible first | exact HB.out | apply below_alloc | apply pw_below_drewN | apply below_drew1 | refine below_set ?_ GE347.out) | exact HB.out)⟩⟩
                                    · replace c28 := Bool.eq_false_iff.mpr c28
                                      subst c28
                                      have H1 : (none) = some r := by rw [if_neg (show ¬ (false = true) by decide)] at H; exact H
                                      clear H
                                      have H := H1
                                      clear H1
                                      exact absurd H (by simp)
                                  · rw [if_neg c26] at H
                                    have c26b0 : (x8_3 == ((rd_T46 t342 x7_1).f1)) = false := beq_eq_false_iff_ne.mpr c26
                                    have c26b1 : (x8_3 != ((rd_T46 t342 x7_1).f1)) = true := bne_iff_ne.mpr c26
                                    have H' := Aside0.mk H
                                    clear H
                                    have p353 : 0 ≤ (x7_1 : Int) := of_decide_eq_true (by first | (with_reducible assumption) | assumption)
                                    have q353 : x7_1 < (t342.length : Int) := of_decide_eq_true (by first | (with_reducible assumption) | assumption)
                                    obtain ⟨ad353, A353_2, c353_2, e353, hx353_0, hx353_1, hx353_2, hl353_2, hi353_2⟩ := at_T46 (Kd.S_reads' HO_4.out).2.2 x7_1 p353 q353
                                    cases e353
                                    obtain ⟨ce353, hce353, hMe353, hcc353⟩ := Kd.S_get HO_4.out z46 x7_1 p353 (by first | exact q353 | exact of_decide_eq_true (by first | (with_reducible assumption) | assumption) | (have e_ := (Kd.S_reads' HO_4.out).1; omega))
                                    obtain ⟨ve353_2, rfl, ge353_2⟩ := k46_openM hMe353
                                    have hv353_2 := hcc353 2 _ rfl
                                    rw [add_field _ _ 2 (by omega)] at hv353_2
                                    replace hv353_2 := Option.some.inj (hv353_2.symm.trans hx353_2)
                                    rw [hv353_2] at ge353_2
                                    have HL353_2 := Aside0.mk (show Kd.R (Kd.int .i64) 3 _ _ _ _ ((rd_T46 t342 x7_1).f2) from ge353_2)
                                    clear hv353_2 ge353_2
                                    clear hcc353 hce353
                                    have HR353_2 := Aside0.mk hi353_2
                                    have HC353_2 := Aside0.mk hl353_2
                                    clear hi353_2 hl353_2
                                    replace p353 := eq_true p353
                                    replace q353 := eq_true q353
                                    go_wp2_with (first | ((with_reducible refine gate_callee (f := 9) rfl ?_); refine goesL_ (some 81) rfl rfl Try.func9 (by kernel_rfl) rfl #[.slice A0 l0.length c0, .int .i64 x8_3] rfl (by (try simp only [List.map_toArray, List.map_cons, List.map_nil]); first | done | rfl | (simp only [List.length_drop, List.length_take]; rfl)) ?_; (with_reducible refine (flow_Next.calls _ _ l0 x8_3 t355 t356 _ ?side1 ?side2 A21.out).mono ?_); (case side1 => repeat (first | exact (Kd.C_below HR0.out HB.out) | (with_reducible refine Kd.C_alloc ?_ _) | (with_reducible refine Kd.C_drewN ?_ _) | (with_reducible refine Kd.C_drew ?_))); (case side2 => exact HC0.out); rintro e w34 ⟨v357, rfl, ho0, hb⟩; refine ⟨_, rfl, ?_⟩; have n0_ := Aside0.mk (Kd.S_elder' (by (with_reducible repeat (first | apply Kd.S_alloc | apply Kd.S_drewN | apply Kd.S_drew)); exact HO_4.out) (Kd.R_base ho0) hb); have n1_ := Aside0.mk (Kd.R_elder' (by (with_reducible repeat (first | apply Kd.R_alloc | apply Kd.R_drewN | apply Kd.R_drew)); exact HL353_2.out) (Kd.R_base ho0) hb); have n2_ := Aside0.mk (Kd.R_lower (Kd.R_new' ho0 (Kd.R_lt (by (with_reducible repeat (first | apply Kd.R_alloc | apply Kd.R_drewN | apply Kd.R_drew)); exact HL353_2.out))) (below_size (by repeat (first | (with_reducible first | exact HB.out | apply below_alloc | apply pw_below_drewN | apply below_drew1 | refine below_set ?_ GE347.out) | exact HB.out)))); have n3_ := Aside0.mk (blk_below (g := gb347) (o := .cells #[.int .i64 t345, .int .i64 t346] 29 (0, 0)) (by (with_reducible repeat (first | refine blk_drewN ?_ _ | refine blk_drew ?_ | refine blk_alloc ?_ _)); exact BK347.out) hb); have n4_ := Aside0.mk (Kd.C_below (by repeat (first | (with_reducible exact HR353_2.out) | (with_reducible refine Kd.C_alloc ?_ _) | (with_reducible refine Kd.C_drewN ?_ _) | (with_reducible refine Kd.C_drew ?_) | exact HR353_2.out)) hb); have n5_ := Aside0.mk (below_step (by repeat (first | (with_reducible first | exact HB.out | apply below_alloc | apply pw_below_drewN | apply below_drew1 | refine below_set ?_ GE347.out) | exact HB.out)) hb); clear HO_4; clear HL353_2; clear BK347; clear HR353_2; clear HB; have HO_4 := n0_; have HL353_2 := n1_; have HO358 := n2_; have BK347 := n3_; have HR353_2 := n4_; have HB := n5_; clear n0_ n1_ n2_ n3_ n4_ n5_; (try clear hb); (try clear hb2); (try clear hk); (try clear hi); (try clear ho0); have p359 : 0 ≤ (x7_1 : Int) := of_decide_eq_true (by first | (with_reducible assumption) | assumption); have q359 : x7_1 < (t342.length : Int) := of_decide_eq_true (by first | (with_reducible assumption) | assumption); obtain ⟨ad359, A359_2, c359_2, e359, hx359_0, hx359_1, hx359_2, hl359_2, hi359_2⟩ := at_T46 (Kd.S_reads' HO_4.out).2.2 x7_1 p359 q359; obtain rfl : ad353 = ad359 := (by injection e359); obtain ⟨ce359, hce359, hMe359, hcc359⟩ := Kd.S_get HO_4.out z46 x7_1 p359 (by first | exact q359 | exact of_decide_eq_true (by first | (with_reducible assumption) | assumption) | (have e_ := (Kd.S_reads' HO_4.out).1; omega)); obtain ⟨ve359_2, rfl, ge359_2⟩ := k46_openM hMe359; have hv359_2 := hcc359 2 _ rfl; rw [add_field _ _ 2 (by omega)] at hv359_2; replace hv359_2 := Option.some.inj (hv359_2.symm.trans hx359_2); rw [hv359_2] at ge359_2; have HL359_2 := Aside0.mk (show Kd.R (Kd.int .i64) 3 _ _ _ _ ((rd_T46 t342 x7_1).f2) from ge359_2); clear hv359_2 ge359_2; clear hcc359 hce359; have HR359_2 := Aside0.mk hi359_2; have HC359_2 := Aside0.mk hl359_2; clear hi359_2 hl359_2; replace p359 := eq_true p359; replace q359 := eq_true q359) | ((with_reducible refine gate_dst (N := 98) rfl ?_); (try (refine gate_guard (by rfl) ?_; dsimp only)); refine Kd.R_lit (Kd.int .i64) _ 3 ?hg (N := 98) ?hd (xs := ([wrap64 (x8_3 + 1)] : List Int)) (inner := [.int .i64 (wrap64 (x8_3 + 1))]) (ok := fun _ => True) (okp := fun _ => True) ?hr ?hp (fun _ hk => hk) trivial (Below.refl _ _) (Nat.le_refl _) (by simp) ?_; (case hd => rfl); (case hg => rfl); (case hr => first | (go_simp; done) | (go_simp; rfl)); (case hp => exact (Reps.one (show Kd.M (Kd.int .i64) _ _ _ (wrap64 (x8_3 + 1)) [.int .i64 (wrap64 (x8_3 + 1))] from rfl) (Reps.none _ _))); intro v361 w35 ho36 hb hg_ hnew_; clear hg_ hnew_; (first | rw [← Ny360.out] at ho36 | (simp only [Int.reduceToNat] at ho36; rw [← Ny360.out] at ho36)); have n0_ := Aside0.mk (Kd.S_elder' (by (with_reducible repeat (first | apply Kd.S_alloc | apply Kd.S_drewN | apply Kd.S_drew)); exact HO_4.out) (Kd.R_base ho36) hb); have n1_ := Aside0.mk (Kd.R_elder' (by (with_reducible repeat (first | apply Kd.R_alloc | apply Kd.R_drewN | apply Kd.R_drew)); exact HL353_2.out) (Kd.R_base ho36) hb); have n2_ := Aside0.mk (Kd.R_elder' (by (with_reducible repeat (first | apply Kd.R_alloc | apply Kd.R_drewN | apply Kd.R_drew)); exact HO358.out) (Kd.R_base ho36) hb); have n3_ := Aside0.mk (Kd.R_elder' (by (with_reducible repeat (first | apply Kd.R_alloc | apply Kd.R_drewN | apply Kd.R_drew)); exact HL359_2.out) (Kd.R_base ho36) hb); have n4_ := Aside0.mk (Kd.R_lower (Kd.R_new' (Kd.R_new' (Kd.R_new' ho36 (Kd.R_lt (by (with_reducible repeat (first | apply Kd.R_alloc | apply Kd.R_drewN | apply Kd.R_drew)); exact HL353_2.out))) (Kd.R_lt (by (with_reducible repeat (first | apply Kd.R_alloc | apply Kd.R_drewN | apply Kd.R_drew)); exact HO358.out))) (Kd.R_lt (by (with_reducible repeat (first | apply Kd.R_alloc | apply Kd.R_drewN | apply Kd.R_drew)); exact HL359_2.out))) (below_size (by repeat (first | (with_reducible first | exact HB.out | apply below_alloc | apply pw_below_drewN | apply below_drew1 | refine below_set ?_ GE347.out) | exact HB.out)))); have n5_ := Aside0.mk (blk_below (g := gb347) (o := .cells #[.int .i64 t345, .int .i64 t346] 29 (0, 0)) (by (with_reducible repeat (first | refine blk_drewN ?_ _ | refine blk_drew ?_ | refine blk_alloc ?_ _)); exact BK347.out) hb); have n6_ := Aside0.mk (Kd.C_below (by repeat (first | (with_reducible exact HR353_2.out) | (with_reducible refine Kd.C_alloc ?_ _) | (with_reducible refine Kd.C_drewN ?_ _) | (with_reducible refine Kd.C_drew ?_) | exact HR353_2.out)) hb); have n7_ := Aside0.mk (Kd.C_below (by repeat (first | (with_reducible exact HR359_2.out) | (with_reducible refine Kd.C_alloc ?_ _) | (with_reducible refine Kd.C_drewN ?_ _) | (with_reducible refine Kd.C_drew ?_) | exact HR359_2.out)) hb); have n8_ := Aside0.mk (below_step (by repeat (first | (with_reducible first | exact HB.out | apply below_alloc | apply pw_below_drewN | apply below_drew1 | refine below_set ?_ GE347.out) | exact HB.out)) hb); clear HO_4; clear HL353_2; clear HO358; clear HL359_2; clear BK347; clear HR353_2; clear HR359_2; clear HB; have HO_4 := n0_; have HL353_2 := n1_; have HO358 := n2_; have HL359_2 := n3_; have HO362 := n4_; have BK347 := n5_; have HR353_2 := n6_; have HR359_2 := n7_; have HB := n8_; clear n0_ n1_ n2_ n3_ n4_ n5_ n6_ n7_ n8_; clear hb ho36; obtain ⟨Ao37, co37, eo37⟩ := Kd.R_slice HO358.out; subst eo37; obtain ⟨Ao38, co38, eo38⟩ := Kd.R_slice HO362.out; subst eo38) | (go_at_call 17; (with_reducible refine (chaperonkit_SameInts.calls k3 _ _ t355 _ _ y360 true _ ?side1 ?side2 ?side3 ?side4 A24.out).mono ?_); (case side1 => repeat (first | exact (Kd.R_reads' HO358.out).2.2 | (with_reducible refine Kd.C_alloc ?_ _) | (with_reducible refine Kd.C_drewN ?_ _) | (with_reducible refine Kd.C_drew ?_))); (case side2 => exact (Kd.R_reads' HO358.out).2.1); (case side3 => repeat (first | exact (Kd.R_reads' HO362.out).2.2 | (with_reducible refine Kd.C_alloc ?_ _) | (with_reducible refine Kd.C_drewN ?_ _) | (with_reducible refine Kd.C_drew ?_))); (case side4 => exact (Kd.R_reads' HO362.out).2.1); rintro e w' ⟨rfl, ⟨nd, rfl⟩⟩; have p364 : 0 ≤ (x7_1 : Int) := of_decide_eq_true (by first | (with_reducible assumption) | assumption); have q364 : x7_1 < (t342.length : Int) := of_decide_eq_true (by first | (with_reducible assumption) | assumption); obtain ⟨ad364, A364_2, c364_2, e364, hx364_0, hx364_1, hx364_2, hl364_2, hi364_2⟩ := at_T46 (Kd.S_reads' HO_4.out).2.2 x7_1 p364 q364; obtain rfl : ad353 = ad364 := (by injection e364); obtain ⟨ce364, hce364, hMe364, hcc364⟩ := Kd.S_get HO_4.out z46 x7_1 p364 (by first | exact q364 | exact of_decide_eq_true (by first | (with_reducible assumption) | assumption) | (have e_ := (Kd.S_reads' HO_4.out).1; omega)); obtain ⟨ve364_2, rfl, ge364_2⟩ := k46_openM hMe364; have hv364_2 := hcc364 2 _ rfl; rw [add_field _ _ 2 (by omega)] at hv364_2; replace hv364_2 := Option.some.inj (hv364_2.symm.trans hx364_2); rw [hv364_2] at ge364_2; have HL364_2 := Aside0.mk (show Kd.R (Kd.int .i64) 3 _ _ _ _ ((rd_T46 t342 x7_1).f2) from ge364_2); clear hv364_2 ge364_2; clear hcc364 hce364; have HR364_2 := Aside0.mk hi364_2; have HC364_2 := Aside0.mk hl364_2; clear hi364_2 hl364_2; replace p364 := eq_true p364; replace q364 := eq_true q364))
                                    go_roundg k3
                                    case measure => have := HK1.out; have := HJ11.out; have := HK3.out; omega
                                    case rel => exact ⟨(wrap64 (x8_3 + 1)), (by first | rfl | (simp; done) | (simp [*]; done)), H', ⟨by have := HK1.out; have := HJ11.out; have := HK3.out; omega⟩, ⟨by (with_reducible repeat (first | apply Kd.S_alloc | apply Kd.S_drewN | apply Kd.S_drew)); exact Kd.S_mono HO_4.out (fun _ hk => trivial)⟩, ⟨by (with_reducible repeat (first | refine blk_drewN ?_ _ | refine blk_drew ?_ | refine blk_alloc ?_ _)); exact BK347.out⟩, ⟨by repeat (first | (with_reducible first | exact HB.out | apply below_alloc | apply pw_below_drewN | apply below_drew1 | refine below_set ?_ GE347.out) | exact HB.out)⟩⟩
                                · replace c25 := Bool.eq_false_iff.mpr c25
                                  subst c25
                                  have H1 : (none) = some r := by rw [if_neg (show ¬ (false = true) by decide)] at H; exact H
                                  clear H
                                  have H := H1
                                  clear H1
                                  exact absurd H (by simp)
                              · rw [if_neg c23] at H
                                have c23b0 : decide (x8_3 < ((rd_T46 t342 x7_1).f1)) = false := decide_eq_false c23
                                clear c23
                                by_cases c39 : x8_3 = ((rd_T46 t342 x7_1).f1)
                                · rw [if_pos c39] at H
                                  have c39b0 : (x8_3 == ((rd_T46 t342 x7_1).f1)) = true := beq_iff_eq.mpr c39
                                  have c39b1 : (x8_3 != ((rd_T46 t342 x7_1).f1)) = false := bne_eq_false_iff_eq.mpr c39
                                  clear c39
                                  replace H := Option.bind_eq_some_iff.mp H
                                  obtain ⟨t369, A400, H⟩ := H
                                  replace H : (if t369 = true then (chaperonlaw24_FlowParts.l1 k3 l0 t341 t342 x7_1 (wrap64 (x8_3 + 1))) else (none)) = some r := H
                                  have A40 := Aside0.mk A400
                                  clear A400
                                  by_cases c41 : t369 = true
                                  · subst c41
                                    have H1 : (chaperonlaw24_FlowParts.l1 k3 l0 t341 t342 x7_1 (wrap64 (x8_3 + 1))) = some r := by rw [if_pos rfl] at H; exact H
                                    clear H
                                    have H := H1
                                    clear H1
                                    have H' := Aside0.mk H
                                    clear H
                                    have p353 : 0 ≤ (x7_1 : Int) := of_decide_eq_true (by first | (with_reducible assumption) | assumption)
                                    have q353 : x7_1 < (t342.length : Int) := of_decide_eq_true (by first | (with_reducible assumption) | assumption)
                                    obtain ⟨ad353, A353_2, c353_2, e353, hx353_0, hx353_1, hx353_2, hl353_2, hi353_2⟩ := at_T46 (Kd.S_reads' HO_4.out).2.2 x7_1 p353 q353
                                    cases e353
                                    obtain ⟨ce353, hce353, hMe353, hcc353⟩ := Kd.S_get HO_4.out z46 x7_1 p353 (by first | exact q353 | exact of_decide_eq_true (by first | (with_reducible assumption) | assumption) | (have e_ := (Kd.S_reads' HO_4.out).1; omega))
                                    obtain ⟨ve353_2, rfl, ge353_2⟩ := k46_openM hMe353
                                    have hv353_2 := hcc353 2 _ rfl
                                    rw [add_field _ _ 2 (by omega)] at hv353_2
                                    replace hv353_2 := Option.some.inj (hv353_2.symm.trans hx353_2)
                                    rw [hv353_2] at ge353_2
                                    have HL353_2 := Aside0.mk (show Kd.R (Kd.int .i64) 3 _ _ _ _ ((rd_T46 t342 x7_1).f2) from ge353_2)
                                    clear hv353_2 ge353_2
                                    clear hcc353 hce353
                                    have HR353_2 := Aside0.mk hi353_2
                                    have HC353_2 := Aside0.mk hl353_2
                                    clear hi353_2 hl353_2
                                    replace p353 := eq_true p353
                                    replace q353 := eq_true q353
                                    go_wp2_with (first | ((with_reducible refine gate_callee (f := 9) rfl ?_); refine goesL_ (some 81) rfl rfl Try.func9 (by kernel_rfl) rfl #[.slice A0 l0.length c0, .int .i64 x8_3] rfl (by (try simp only [List.map_toArray, List.map_cons, List.map_nil]); first | done | rfl | (simp only [List.length_drop, List.length_take]; rfl)) ?_; (with_reducible refine (flow_Next.calls _ _ l0 x8_3 t355 t356 _ ?side1 ?side2 A21.out).mono ?_); (case side1 => repeat (first | exact (Kd.C_below HR0.out HB.out) | (with_reducible refine Kd.C_alloc ?_ _) | (with_reducible refine Kd.C_drewN ?_ _) | (with_reducible refine Kd.C_drew ?_))); (case side2 => exact HC0.out); rintro e w42 ⟨v357, rfl, ho0, hb⟩; refine ⟨_, rfl, ?_⟩; have n0_ := Aside0.mk (Kd.S_elder' (by (with_reducible repeat (first | apply Kd.S_alloc | apply Kd.S_drewN | apply Kd.S_drew)); exact HO_4.out) (Kd.R_base ho0) hb); have n1_ := Aside0.mk (Kd.R_elder' (by (with_reducible repeat (first | apply Kd.R_alloc | apply Kd.R_drewN | apply Kd.R_drew)); exact HL353_2.out) (Kd.R_base ho0) hb); have n2_ := Aside0.mk (Kd.R_lower (Kd.R_new' ho0 (Kd.R_lt (by (with_reducible repeat (first | apply Kd.R_alloc | apply Kd.R_drewN | apply Kd.R_drew)); exact HL353_2.out))) (below_size (by repeat (first | (with_reducible first | exact HB.out | apply below_alloc | apply pw_below_drewN | apply below_drew1 | refine below_set ?_ GE347.out) | exact HB.out)))); have n3_ := Aside0.mk (blk_below (g := gb347) (o := .cells #[.int .i64 t345, .int .i64 t346] 29 (0, 0)) (by (with_reducible repeat (first | refine blk_drewN ?_ _ | refine blk_drew ?_ | refine blk_alloc ?_ _)); exact BK347.out) hb); have n4_ := Aside0.mk (Kd.C_below (by repeat (first | (with_reducible exact HR353_2.out) | (with_reducible refine Kd.C_alloc ?_ _) | (with_reducible refine Kd.C_drewN ?_ _) | (with_reducible refine Kd.C_drew ?_) | exact HR353_2.out)) hb); have n5_ := Aside0.mk (below_step (by repeat (first | (with_reducible first | exact HB.out | apply below_alloc | apply pw_below_drewN | apply below_drew1 | refine below_set ?_ GE347.out) | exact HB.out)) hb); clear HO_4; clear HL353_2; clear BK347; clear HR353_2; clear HB; have HO_4 := n0_; have HL353_2 := n1_; have HO358 := n2_; have BK347 := n3_; have HR353_2 := n4_; have HB := n5_; clear n0_ n1_ n2_ n3_ n4_ n5_; (try clear hb); (try clear hb2); (try clear hk); (try clear hi); (try clear ho0); have p359 : 0 ≤ (x7_1 : Int) := of_decide_eq_true (by first | (with_reducible assumption) | assumption); have q359 : x7_1 < (t342.length : Int) := of_decide_eq_true (by first | (with_reducible assumption) | assumption); obtain ⟨ad359, A359_2, c359_2, e359, hx359_0, hx359_1, hx359_2, hl359_2, hi359_2⟩ := at_T46 (Kd.S_reads' HO_4.out).2.2 x7_1 p359 q359; obtain rfl : ad353 = ad359 := (by injection e359); obtain ⟨ce359, hce359, hMe359, hcc359⟩ := Kd.S_get HO_4.out z46 x7_1 p359 (by first | exact q359 | exact of_decide_eq_true (by first | (with_reducible assumption) | assumption) | (have e_ := (Kd.S_reads' HO_4.out).1; omega)); obtain ⟨ve359_2, rfl, ge359_2⟩ := k46_openM hMe359; have hv359_2 := hcc359 2 _ rfl; rw [add_field _ _ 2 (by omega)] at hv359_2; replace hv359_2 := Option.some.inj (hv359_2.symm.trans hx359_2); rw [hv359_2] at ge359_2; have HL359_2 := Aside0.mk (show Kd.R (Kd.int .i64) 3 _ _ _ _ ((rd_T46 t342 x7_1).f2) from ge359_2); clear hv359_2 ge359_2; clear hcc359 hce359; have HR359_2 := Aside0.mk hi359_2; have HC359_2 := Aside0.mk hl359_2; clear hi359_2 hl359_2; replace p359 := eq_true p359; replace q359 := eq_true q359; have p367 : 0 ≤ (x7_1 : Int) := of_decide_eq_true (by first | (with_reducible assumption) | assumption); have q367 : x7_1 < (t342.length : Int) := of_decide_eq_true (by first | (with_reducible assumption) | assumption); obtain ⟨ad367, A367_2, c367_2, e367, hx367_0, hx367_1, hx367_2, hl367_2, hi367_2⟩ := at_T46 (Kd.S_reads' HO_4.out).2.2 x7_1 p367 q367; obtain rfl : ad353 = ad367 := (by injection e367); obtain ⟨ce367, hce367, hMe367, hcc367⟩ := Kd.S_get HO_4.out z46 x7_1 p367 (by first | exact q367 | exact of_decide_eq_true (by first | (with_reducible assumption) | assumption) | (have e_ := (Kd.S_reads' HO_4.out).1; omega)); obtain ⟨ve367_2, rfl, ge367_2⟩ := k46_openM hMe367; have hv367_2 := hcc367 2 _ rfl; rw [add_field _ _ 2 (by omega)] at hv367_2; replace hv367_2 := Option.some.inj (hv367_2.symm.trans hx367_2); rw [hv367_2] at ge367_2; have HL367_2 := Aside0.mk (show Kd.R (Kd.int .i64) 3 _ _ _ _ ((rd_T46 t342 x7_1).f2) from ge367_2); clear hv367_2 ge367_2; clear hcc367 hce367; have HR367_2 := Aside0.mk hi367_2; have HC367_2 := Aside0.mk hl367_2; clear hi367_2 hl367_2; replace p367 := eq_true p367; replace q367 := eq_true q367; have ea_ := Option.some.inj (hx359_2.symm.trans hx367_2); injection ea_ with ea_ en_ ec_; subst ea_; subst ec_; clear en_; have p368 : 0 ≤ (x7_1 : Int) := of_decide_eq_true (by first | (with_reducible assumption) | assumption); have q368 : x7_1 < (t342.length : Int) := of_decide_eq_true (by first | (with_reducible assumption) | assumption); obtain ⟨ad368, A368_2, c368_2, e368, hx368_0, hx368_1, hx368_2, hl368_2, hi368_2⟩ := at_T46 (Kd.S_reads' HO_4.out).2.2 x7_1 p368 q368; obtain rfl : ad353 = ad368 := (by injection e368); obtain ⟨ce368, hce368, hMe368, hcc368⟩ := Kd.S_get HO_4.out z46 x7_1 p368 (by first | exact q368 | exact of_decide_eq_true (by first | (with_reducible assumption) | assumption) | (have e_ := (Kd.S_reads' HO_4.out).1; omega)); obtain ⟨ve368_2, rfl, ge368_2⟩ := k46_openM hMe368; have hv368_2 := hcc368 2 _ rfl; rw [add_field _ _ 2 (by omega)] at hv368_2; replace hv368_2 := Option.some.inj (hv368_2.symm.trans hx368_2); rw [hv368_2] at ge368_2; have HL368_2 := Aside0.mk (show Kd.R (Kd.int .i64) 3 _ _ _ _ ((rd_T46 t342 x7_1).f2) from ge368_2); clear hv368_2 ge368_2; clear hcc368 hce368; have HR368_2 := Aside0.mk hi368_2; have HC368_2 := Aside0.mk hl368_2; clear hi368_2 hl368_2; replace p368 := eq_true p368; replace q368 := eq_true q368; have ea_ := Option.some.inj (hx359_2.symm.trans hx368_2); injection ea_ with ea_ en_ ec_; subst ea_; subst ec_; clear en_; obtain ⟨Ao43, co43, eo43⟩ := Kd.R_slice HO358.out; subst eo43) | (go_at_call 17; (with_reducible refine (chaperonkit_SameInts.calls k3 _ _ t355 _ _ ((rd_T46 t342 x7_1).f2) true _ ?side1 ?side2 ?side3 ?side4 A40.out).mono ?_); (case side1 => repeat (first | exact (Kd.R_reads' HO358.out).2.2 | (with_reducible refine Kd.C_alloc ?_ _) | (with_reducible refine Kd.C_drewN ?_ _) | (with_reducible refine Kd.C_drew ?_))); (case side2 => exact (Kd.R_reads' HO358.out).2.1); (case side3 => repeat (first | exact (by repeat (first | (with_reducible exact HR368_2.out) | (with_reducible refine Kd.C_alloc ?_ _) | (with_reducible refine Kd.C_drewN ?_ _) | (with_reducible refine Kd.C_drew ?_) | exact HR368_2.out)) | (with_reducible refine Kd.C_alloc ?_ _) | (with_reducible refine Kd.C_drewN ?_ _) | (with_reducible refine Kd.C_drew ?_))); (case side4 => exact HC368_2.out); rintro e w' ⟨rfl, ⟨nd, rfl⟩⟩))
                                    go_roundg k3
                                    case measure => have := HK1.out; have := HJ11.out; have := HK3.out; omega
                                    case rel => exact ⟨(wrap64 (x8_3 + 1)), (by first | rfl | (simp; done) | (simp [*]; done)), H', ⟨by have := HK1.out; have := HJ11.out; have := HK3.out; omega⟩, ⟨by (with_reducible repeat (first | apply Kd.S_alloc | apply Kd.S_drewN | apply Kd.S_drew)); exact Kd.S_mono HO_4.out (fun _ hk => trivial)⟩, ⟨by (with_reducible repeat (first | refine blk_drewN ?_ _ | refine blk_drew ?_ | refine blk_alloc ?_ _)); exact BK347.out⟩, ⟨by repeat (first | (with_reducible first | exact HB.out | apply below_alloc | apply pw_below_drewN | apply below_drew1 | refine below_set ?_ GE347.out) | exact HB.out)⟩⟩
                                  · replace c41 := Bool.eq_false_iff.mpr c41
                                    subst c41
                                    have H1 : (none) = some r := by rw [if_neg (show ¬ (false = true) by decide)] at H; exact H
                                    clear H
                                    have H := H1
                                    clear H1
                                    exact absurd H (by simp)
                                · rw [if_neg c39] at H
                                  have c39b0 : (x8_3 == ((rd_T46 t342 x7_1).f1)) = false := beq_eq_false_iff_ne.mpr c39
                                  have c39b1 : (x8_3 != ((rd_T46 t342 x7_1).f1)) = true := bne_iff_ne.mpr c39
                                  have H' := Aside0.mk H
                                  clear H
                                  have p353 : 0 ≤ (x7_1 : Int) := of_decide_eq_true (by first | (with_reducible assumption) | assumption)
                                  have q353 : x7_1 < (t342.length : Int) := of_decide_eq_true (by first | (with_reducible assumption) | assumption)
                                  obtain ⟨ad353, A353_2, c353_2, e353, hx353_0, hx353_1, hx353_2, hl353_2, hi353_2⟩ := at_T46 (Kd.S_reads' HO_4.out).2.2 x7_1 p353 q353
                                  cases e353
                                  obtain ⟨ce353, hce353, hMe353, hcc353⟩ := Kd.S_get HO_4.out z46 x7_1 p353 (by first | exact q353 | exact of_decide_eq_true (by first | (with_reducible assumption) | assumption) | (have e_ := (Kd.S_reads' HO_4.out).1; omega))
                                  obtain ⟨ve353_2, rfl, ge353_2⟩ := k46_openM hMe353
                                  have hv353_2 := hcc353 2 _ rfl
                                  rw [add_field _ _ 2 (by omega)] at hv353_2
                                  replace hv353_2 := Option.some.inj (hv353_2.symm.trans hx353_2)
                                  rw [hv353_2] at ge353_2
                                  have HL353_2 := Aside0.mk (show Kd.R (Kd.int .i64) 3 _ _ _ _ ((rd_T46 t342 x7_1).f2) from ge353_2)
                                  clear hv353_2 ge353_2
                                  clear hcc353 hce353
                                  have HR353_2 := Aside0.mk hi353_2
                                  have HC353_2 := Aside0.mk hl353_2
                                  clear hi353_2 hl353_2
                                  replace p353 := eq_true p353
                                  replace q353 := eq_true q353
                                  go_wp2_with (first | ((with_reducible refine gate_callee (f := 9) rfl ?_); refine goesL_ (some 81) rfl rfl Try.func9 (by kernel_rfl) rfl #[.slice A0 l0.length c0, .int .i64 x8_3] rfl (by (try simp only [List.map_toArray, List.map_cons, List.map_nil]); first | done | rfl | (simp only [List.length_drop, List.length_take]; rfl)) ?_; (with_reducible refine (flow_Next.calls _ _ l0 x8_3 t355 t356 _ ?side1 ?side2 A21.out).mono ?_); (case side1 => repeat (first | exact (Kd.C_below HR0.out HB.out) | (with_reducible refine Kd.C_alloc ?_ _) | (with_reducible refine Kd.C_drewN ?_ _) | (with_reducible refine Kd.C_drew ?_))); (case side2 => exact HC0.out); rintro e w44 ⟨v357, rfl, ho0, hb⟩; refine ⟨_, rfl, ?_⟩; have n0_ := Aside0.mk (Kd.S_elder' (by (with_reducible repeat (first | apply Kd.S_alloc | apply Kd.S_drewN | apply Kd.S_drew)); exact HO_4.out) (Kd.R_base ho0) hb); have n1_ := Aside0.mk (Kd.R_elder' (by (with_reducible repeat (first | apply Kd.R_alloc | apply Kd.R_drewN | apply Kd.R_drew)); exact HL353_2.out) (Kd.R_base ho0) hb); have n2_ := Aside0.mk (Kd.R_lower (Kd.R_new' ho0 (Kd.R_lt (by (with_reducible repeat (first | apply Kd.R_alloc | apply Kd.R_drewN | apply Kd.R_drew)); exact HL353_2.out))) (below_size (by repeat (first | (with_reducible first | exact HB.out | apply below_alloc | apply pw_below_drewN | apply below_drew1 | refine below_set ?_ GE347.out) | exact HB.out)))); have n3_ := Aside0.mk (blk_below (g := gb347) (o := .cells #[.int .i64 t345, .int .i64 t346] 29 (0, 0)) (by (with_reducible repeat (first | refine blk_drewN ?_ _ | refine blk_drew ?_ | refine blk_alloc ?_ _)); exact BK347.out) hb); have n4_ := Aside0.mk (Kd.C_below (by repeat (first | (with_reducible exact HR353_2.out) | (with_reducible refine Kd.C_alloc ?_ _) | (with_reducible refine Kd.C_drewN ?_ _) | (with_reducible refine Kd.C_drew ?_) | exact HR353_2.out)) hb); have n5_ := Aside0.mk (below_step (by repeat (first | (with_reducible first | exact HB.out | apply below_alloc | apply pw_below_drewN | apply below_drew1 | refine below_set ?_ GE347.out) | exact HB.out)) hb); clear HO_4; clear HL353_2; clear BK347; clear HR353_2; clear HB; have HO_4 := n0_; have HL353_2 := n1_; have HO358 := n2_; have BK347 := n3_; have HR353_2 := n4_; have HB := n5_; clear n0_ n1_ n2_ n3_ n4_ n5_; (try clear hb); (try clear hb2); (try clear hk); (try clear hi); (try clear ho0); have p359 : 0 ≤ (x7_1 : Int) := of_decide_eq_true (by first | (with_reducible assumption) | assumption); have q359 : x7_1 < (t342.length : Int) := of_decide_eq_true (by first | (with_reducible assumption) | assumption); obtain ⟨ad359, A359_2, c359_2, e359, hx359_0, hx359_1, hx359_2, hl359_2, hi359_2⟩ := at_T46 (Kd.S_reads' HO_4.out).2.2 x7_1 p359 q359; obtain rfl : ad353 = ad359 := (by injection e359); obtain ⟨ce359, hce359, hMe359, hcc359⟩ := Kd.S_get HO_4.out z46 x7_1 p359 (by first | exact q359 | exact of_decide_eq_true (by first | (with_reducible assumption) | assumption) | (have e_ := (Kd.S_reads' HO_4.out).1; omega)); obtain ⟨ve359_2, rfl, ge359_2⟩ := k46_openM hMe359; have hv359_2 := hcc359 2 _ rfl; rw [add_field _ _ 2 (by omega)] at hv359_2; replace hv359_2 := Option.some.inj (hv359_2.symm.trans hx359_2); rw [hv359_2] at ge359_2; have HL359_2 := Aside0.mk (show Kd.R (Kd.int .i64) 3 _ _ _ _ ((rd_T46 t342 x7_1).f2) from ge359_2); clear hv359_2 ge359_2; clear hcc359 hce359; have HR359_2 := Aside0.mk hi359_2; have HC359_2 := Aside0.mk hl359_2; clear hi359_2 hl359_2; replace p359 := eq_true p359; replace q359 := eq_true q359; have p367 : 0 ≤ (x7_1 : Int) := of_decide_eq_true (by first | (with_reducible assumption) | assumption); have q367 : x7_1 < (t342.length : Int) := of_decide_eq_true (by first | (with_reducible assumption) | assumption); obtain ⟨ad367, A367_2, c367_2, e367, hx367_0, hx367_1, hx367_2, hl367_2, hi367_2⟩ := at_T46 (Kd.S_reads' HO_4.out).2.2 x7_1 p367 q367; obtain rfl : ad353 = ad367 := (by injection e367); obtain ⟨ce367, hce367, hMe367, hcc367⟩ := Kd.S_get HO_4.out z46 x7_1 p367 (by first | exact q367 | exact of_decide_eq_true (by first | (with_reducible assumption) | assumption) | (have e_ := (Kd.S_reads' HO_4.out).1; omega)); obtain ⟨ve367_2, rfl, ge367_2⟩ := k46_openM hMe367; have hv367_2 := hcc367 2 _ rfl; rw [add_field _ _ 2 (by omega)] at hv367_2; replace hv367_2 := Option.some.inj (hv367_2.symm.trans hx367_2); rw [hv367_2] at ge367_2; have HL367_2 := Aside0.mk (show Kd.R (Kd.int .i64) 3 _ _ _ _ ((rd_T46 t342 x7_1).f2) from ge367_2); clear hv367_2 ge367_2; clear hcc367 hce367; have HR367_2 := Aside0.mk hi367_2; have HC367_2 := Aside0.mk hl367_2; clear hi367_2 hl367_2; replace p367 := eq_true p367; replace q367 := eq_true q367; have ea_ := Option.some.inj (hx359_2.symm.trans hx367_2); injection ea_ with ea_ en_ ec_; subst ea_; subst ec_; clear en_))
                                  go_roundg k3
                                  case measure => have := HK1.out; have := HJ11.out; have := HK3.out; omega
                                  case rel => exact ⟨(wrap64 (x8_3 + 1)), (by first | rfl | (simp; done) | (simp [*]; done)), H', ⟨by have := HK1.out; have := HJ11.out; have := HK3.out; omega⟩, ⟨by (with_reducible repeat (first | apply Kd.S_alloc | apply Kd.S_drewN | apply Kd.S_drew)); exact Kd.S_mono HO_4.out (fun _ hk => trivial)⟩, ⟨by (with_reducible repeat (first | refine blk_drewN ?_ _ | refine blk_drew ?_ | refine blk_alloc ?_ _)); exact BK347.out⟩, ⟨by repeat (first | (with_reducible first | exact HB.out | apply below_alloc | apply pw_below_drewN | apply below_drew1 | refine below_set ?_ GE347.out) | exact HB.out)⟩⟩
                            · rw [if_neg c22] at H
                              exact absurd H (by simp)
                          · rw [if_neg c20] at H
                            have c20b0 : decide (x8_3 ≤ ((rd_T46 t342 x7_1).f1)) = false := decide_eq_false c20
                            clear c20
                            have H' := Aside0.mk H
                            clear H
                            have p353 : 0 ≤ (x7_1 : Int) := of_decide_eq_true (by first | (with_reducible assumption) | assumption)
                            have q353 : x7_1 < (t342.length : Int) := of_decide_eq_true (by first | (with_reducible assumption) | assumption)
                            obtain ⟨ad353, A353_2, c353_2, e353, hx353_0, hx353_1, hx353_2, hl353_2, hi353_2⟩ := at_T46 (Kd.S_reads' HO_4.out).2.2 x7_1 p353 q353
                            cases e353
                            obtain ⟨ce353, hce353, hMe353, hcc353⟩ := Kd.S_get HO_4.out z46 x7_1 p353 (by first | exact q353 | exact of_decide_eq_true (by first | (with_reducible assumption) | assumption) | (have e_ := (Kd.S_reads' HO_4.out).1; omega))
                            obtain ⟨ve353_2, rfl, ge353_2⟩ := k46_openM hMe353
                            have hv353_2 := hcc353 2 _ rfl
                            rw [add_field _ _ 2 (by omega)] at hv353_2
                            replace hv353_2 := Option.some.inj (hv353_2.symm.trans hx353_2)
                            rw [hv353_2] at ge353_2
                            have HL353_2 := Aside0.mk (show Kd.R (Kd.int .i64) 3 _ _ _ _ ((rd_T46 t342 x7_1).f2) from ge353_2)
                            clear hv353_2 ge353_2
                            clear hcc353 hce353
                            have HR353_2 := Aside0.mk hi353_2
                            have HC353_2 := Aside0.mk hl353_2
                            clear hi353_2 hl353_2
                            replace p353 := eq_true p353
                            replace q353 := eq_true q353
                            have p354 : 0 ≤ (x7_1 : Int) := of_decide_eq_true (by first | (with_reducible assumption) | assumption)
                            have q354 : x7_1 < (t342.length : Int) := of_decide_eq_true (by first | (with_reducible assumption) | assumption)
                            obtain ⟨ad354, A354_2, c354_2, e354, hx354_0, hx354_1, hx354_2, hl354_2, hi354_2⟩ := at_T46 (Kd.S_reads' HO_4.out).2.2 x7_1 p354 q354
                            obtain rfl : ad353 = ad354 := (by injection e354)
                            obtain ⟨ce354, hce354, hMe354, hcc354⟩ := Kd.S_get HO_4.out z46 x7_1 p354 (by first | exact q354 | exact of_decide_eq_true (by first | (with_reducible assumption) | assumption) | (have e_ := (Kd.S_reads' HO_4.out).1; omega))
                            obtain ⟨ve354_2, rfl, ge354_2⟩ := k46_openM hMe354
                            have hv354_2 := hcc354 2 _ rfl
                            rw [add_field _ _ 2 (by omega)] at hv354_2
                            replace hv354_2 := Option.some.inj (hv354_2.symm.trans hx354_2)
                            rw [hv354_2] at ge354_2
                            have HL354_2 := Aside0.mk (show Kd.R (Kd.int .i64) 3 _ _ _ _ ((rd_T46 t342 x7_1).f2) from ge354_2)
                            clear hv354_2 ge354_2
                            clear hcc354 hce354
                            have HR354_2 := Aside0.mk hi354_2
                            have HC354_2 := Aside0.mk hl354_2
                            clear hi354_2 hl354_2
                            replace p354 := eq_true p354
                            replace q354 := eq_true q354
                            have ea_ := Option.some.inj (hx353_2.symm.trans hx354_2)
                            injection ea_ with ea_ en_ ec_
                            subst ea_
                            subst ec_
                            clear en_
                            go_wp2
                            go_roundg k3
                            case measure => have := HK1.out; have := HJ11.out; have := HK3.out; omega
                            case rel => exact ⟨(wrap64 (((rd_T46 t342 x7_1).f1) + 1)), (wrap64 (x7_1 + 1)), (by first | rfl | (simp; done) | (simp [*]; done)), (by first | rfl | (simp; done) | (simp [*]; done)), H', ⟨by have := HK1.out; have := HJ11.out; have := HK3.out; omega⟩, ⟨by (with_reducible repeat (first | apply Kd.S_alloc | apply Kd.S_drewN | apply Kd.S_drew)); exact HO_4.out⟩, ⟨by (with_reducible repeat (first | refine blk_drewN ?_ _ | refine blk_drew ?_ | refine blk_alloc ?_ _)); exact BK347.out⟩, ⟨by repeat (first | (with_reducible first | exact HB.out | apply below_alloc | apply pw_below_drewN | apply below_drew1 | refine below_set ?_ GE347.out) | exact HB.out)⟩⟩
                        · rw [if_neg c19] at H
                          exact absurd H (by simp)
                      · rw [if_neg c18] at H
                        exact absurd H (by simp)
          · rw [if_neg c11] at H
            have c11b0 : decide (x7_1 < (t342.length : Int)) = false := decide_eq_false c11
            clear c11
            by_cases c45 : t341 = true
            · subst c45
              have H1 : (some (x6_1 == (l0.length : Int))) = some r := by rw [if_pos rfl] at H; exact H
              clear H
              have H := H1
              clear H1
              obtain rfl := Option.some.inj H
              obtain ⟨Ao46, co46, eo46⟩ := Kd.S_slice HO_4.out
              subst eo46
              go_wp2
              go_ret
              exact ⟨by first | rfl | (simp [errW_none, errW_some] <;> rfl) | (simp [*, errW_none, errW_some] <;> rfl), by repeat (first | (with_reducible first | exact HB.out | apply below_alloc | apply pw_below_drewN | apply below_drew1 | refine below_set ?_ GE347.out) | exact HB.out)⟩
            · replace c45 := Bool.eq_false_iff.mpr c45
              subst c45
              have H1 : (none) = some r := by rw [if_neg (show ¬ (false = true) by decide)] at H; exact H
              clear H
              have H := H1
              clear H1
              exact absurd H (by simp)
    · rw [if_neg c6] at H
      have c6b0 : (t345 == 0) = false := beq_eq_false_iff_ne.mpr c6
      have c6b1 : (t345 != 0) = true := bne_iff_ne.mpr c6
      by_cases c47 : t341 = true
      · subst c47
        have H1 : ((flow_Check.f l0).bind fun bt348 => (if (t345 == bt348.1 && (t346 == bt348.2)) = true then (some ((t342.length : Int) == 0)) else (none))) = some r := by rw [if_pos rfl] at H; exact H
        clear H
        have H := H1
        clear H1
        replace H := Option.bind_eq_some_iff.mp H
        obtain ⟨⟨t348, t349⟩, A480, H⟩ := H
        replace H : (if (t345 == t348 && (t346 == t349)) = true then (some ((t342.length : Int) == 0)) else (none)) = some r := H
        have A48 := Aside0.mk A480
        clear A480
        by_cases c49 : (t345 == t348 && (t346 == t349)) = true
        · rw [if_pos c49] at H
          have c49b0 : (t345 == t348 && (t346 == t349)) = true := c49
          (try (have c49b1 : decide (t345 = t348 && (t346 == t349)) = true := by simpa using c49))
          (try (have c49b2 : (t345 == t348 && (t346 == t349)) = true := by simpa using c49))
          clear c49
          obtain rfl := Option.some.inj H
          go_enter Try.func5, Try.ntmps5
          try go_wp2_with (first | ((with_reducible refine gate_callee (f := 4) rfl ?_); refine goesL_ (some 11) rfl rfl Try.func4 (by kernel_rfl) rfl #[] rfl (by (try simp only [List.map_toArray, List.map_cons, List.map_nil]); first | done | rfl | (simp only [List.length_drop, List.length_take]; rfl)) ?_; (with_reducible refine (chaperonlaw24_FlowKnown.calls k  true _ A2.out).mono ?_); rintro e w50 ⟨rfl, hb⟩; refine ⟨_, rfl, ?_⟩; have n0_ := Aside0.mk (below_step (by repeat (first | (with_reducible first | exact HB.out | apply below_alloc | apply pw_below_drewN | apply below_drew1) | exact HB.out)) hb); clear HB; have HB := n0_; clear n0_; (try clear hb); (try clear hb2); (try clear hk); (try clear hi)) | ((with_reducible refine gate_callee (f := 13) rfl ?_); refine goesL_ (some 18) rfl rfl Try.func13 (by kernel_rfl) rfl #[.slice A0 l0.length c0] rfl (by (try simp only [List.map_toArray, List.map_cons, List.map_nil]); first | done | rfl | (simp only [List.length_drop, List.length_take]; rfl)) ?_; (with_reducible refine (flow_Parts.calls _ _ l0 t342 t345 t346 _ ?side1 ?side2 A5.out).mono ?_); (case side1 => repeat (first | exact (Kd.C_below HR0.out HB.out) | (with_reducible refine Kd.C_alloc ?_ _) | (with_reducible refine Kd.C_drewN ?_ _) | (with_reducible refine Kd.C_drew ?_))); (case side2 => exact HC0.out); rintro e w51 ⟨v343, rfl, ho0, hb⟩; refine ⟨_, rfl, ?_⟩; have n0_ := Aside0.mk (Kd.S_lower ho0 (below_size (by repeat (first | (with_reducible first | exact HB.out | apply below_alloc | apply pw_below_drewN | apply below_drew1) | exact HB.out)))); have n1_ := Aside0.mk (below_step (by repeat (first | (with_reducible first | exact HB.out | apply below_alloc | apply pw_below_drewN | apply below_drew1) | exact HB.out)) hb); clear HB; have HO344 := n0_; have HB := n1_; clear n0_ n1_; (try clear hb); (try clear hb2); (try clear hk); (try clear hi); (try clear ho0)) | ((with_reducible refine gate_dst (N := 5) rfl ?_); (try (refine gate_guard (by rfl) ?_; dsimp only)); refine box_event ?hg (N := 5) ?hd (cs := #[.int .i64 0, .int .i64 0]) (t := 29) ?hr ?_; (case hd => rfl); (case hg => rfl); (case hr => first | (go_simp; done) | (go_simp; rfl)); intro gb347 hg w52 hbox hb; have n0_ := Aside0.mk (Kd.S_below (by (with_reducible repeat (first | apply Kd.S_alloc | apply Kd.S_drewN | apply Kd.S_drew)); exact HO344.out) hb); have n1_ := Aside0.mk (below_step (by repeat (first | (with_reducible first | exact HB.out | apply below_alloc | apply pw_below_drewN | apply below_drew1) | exact HB.out)) hb); have n2_ := Aside0.mk (hbox); have n3_ := Aside0.mk ((by rw [hg]; exact (below_size (by repeat (first | (with_reducible first | exact HB.out | apply below_alloc | apply pw_below_drewN | apply below_drew1) | exact HB.out))) : w.heap.size ≤ gb347)); have n4_ := Aside0.mk ((by rw [hg]; exact (below_size (by repeat (first | (with_reducible first | exact HB.out | apply below_alloc | apply pw_below_drewN | apply below_drew1) | exact HB.out))) : w.heap.size ≤ gb347)); clear HO344; clear HB; have HO344 := n0_; have HB := n1_; have BK347 := n2_; have GW347 := n3_; have GE347 := n4_; clear n0_ n1_ n2_ n3_ n4_; clear hb hbox hg; have hcz53_0 : w52.cell? ⟨gb347, 0, none⟩ = some (.int .i64 0) := (blk_cell BK347.out 0).trans rfl; have hcz53_1 : w52.cell? ⟨gb347, 1, none⟩ = some (.int .i64 0) := (blk_cell BK347.out 1).trans rfl; have hfz53_0 := blk_frozen BK347.out 0; have hfz53_1 := blk_frozen BK347.out 1))
          have n0_ : Aside0 (Kd.S k46 46 ((w52.setCell ⟨gb347, 0, none⟩ (.int .i64 t345)).setCell ⟨gb347, 1, none⟩ (.int .i64 t346)) w.heap.size (fun _ => True) v343 t342) := ⟨by (with_reducible repeat (first | apply Kd.S_alloc | apply Kd.S_drewN | apply Kd.S_drew)); exact Kd.S_mono (Kd.S_far (p := ⟨gb347, 1, none⟩) (Kd.S_far (p := ⟨gb347, 0, none⟩) (Kd.S_types HO344.out BK347.out (by decide)) (fun _ hk => hk.2) (.int .i64 t345)) (fun _ hk => hk.2) (.int .i64 t346)) (fun _ hk => trivial)⟩
          have n1_ : Aside0 (((w52.setCell ⟨gb347, 0, none⟩ (.int .i64 t345)).setCell ⟨gb347, 1, none⟩ (.int .i64 t346)).heap[gb347]? = some (.cells #[.int .i64 t345, .int .i64 t346] 29 (0, 0))) := ⟨by (with_reducible repeat (first | refine blk_drewN ?_ _ | refine blk_drew ?_ | refine blk_alloc ?_ _)); refine blk_put (cs := #[.int .i64 t345, .int .i64 0]) ?_ 1 _ rfl; (with_reducible repeat (first | refine blk_drewN ?_ _ | refine blk_drew ?_ | refine blk_alloc ?_ _)); refine blk_put (cs := #[.int .i64 0, .int .i64 0]) ?_ 0 _ rfl; (with_reducible repeat (first | refine blk_drewN ?_ _ | refine blk_drew ?_ | refine blk_alloc ?_ _)); exact BK347.out⟩
          have n2_ : Aside0 (Below w.heap.size w ((w52.setCell ⟨gb347, 0, none⟩ (.int .i64 t345)).setCell ⟨gb347, 1, none⟩ (.int .i64 t346))) := ⟨by repeat (first | (with_reducible first | exact HB.out | apply below_alloc | apply pw_below_drewN | apply below_drew1 | refine below_set ?_ GE347.out) | exact HB.out)⟩
          (try clear HO344)
          (try clear BK347)
          (try clear HB)
          generalize ((w52.setCell ⟨gb347, 0, none⟩ (.int .i64 t345)).setCell ⟨gb347, 1, none⟩ (.int .i64 t346)) = w54 at n0_ n1_ n2_ ⊢
          have HO344 := n0_
          have BK347 := n1_
          have HB := n2_
          clear n0_ n1_ n2_
          have n0_ := Aside0.mk (Kd.S_drew HO344.out)
          have n1_ := Aside0.mk (blk_drew BK347.out)
          have n2_ := Aside0.mk (below_drew1 HB.out)
          clear HO344
          clear BK347
          clear HB
          have HO344 := n0_
          have BK347 := n1_
          have HB := n2_
          clear n0_ n1_ n2_
          refine start_ (n := 13) (S := fun w' => w'.cell? ⟨gb347, 0, none⟩ = some (.int .i64 t345) ∧ w'.cell? ⟨gb347, 1, none⟩ = some (.int .i64 t346)) (ds := []) #[false, false, false, false, false, false, false, false, false, false, false, false, false] (by kernel_rfl) rfl rfl ⟨(blk_cell BK347.out 0).trans rfl, (blk_cell BK347.out 1).trans rfl⟩ (fun hHeld => ?_); refine with_tabW chaperonlaw24_FlowParts.tab6 chaperonlaw24_FlowParts.bits6 (fun HT_ HW_ => ?_)
          generalize w54.drew = w55 at HO344 BK347 HB hHeld ⊢
          refine pure_ (i := 0) (N := some 24) (v := ?_) (a' := ?_) #[true, false, false, false, false, false, false, false, false, false, false, false, false] rfl rfl (any_of HT_.out (by kernel_rfl)) (fun _ _ _ h => h) (Or.inl ⟨by rfl, ?_⟩) ?_ ?_
          rotate_left
          · intro w'
            go_simp
            with_reducible rfl
          rotate_left
          · simp only [Act.put, List.setIfInBounds_toArray, List.set_cons_zero, List.set_cons_succ, i64_w, i32_w]
            rfl
          refine pure_ (i := 1) (N := some 25) (v := ?_) (a' := ?_) #[true, true, false, false, false, false, false, false, false, false, false, false, false] rfl rfl (any_of HT_.out (by kernel_rfl)) (fun _ _ _ h => h) (Or.inl ⟨by rfl, ?_⟩) ?_ ?_
          rotate_left
          · intro w'
            go_simp
            with_reducible rfl
          rotate_left
          · simp only [Act.put, List.setIfInBounds_toArray, List.set_cons_zero, List.set_cons_succ, i64_w, i32_w]
            rfl
          refine pure_ (i := 3) (N := some 27) (v := ?_) (a' := ?_) #[true, true, false, true, false, false, false, false, false, false, false, false, false] rfl rfl (any_of HT_.out (by kernel_rfl)) (fun _ _ _ h => h) (Or.inl ⟨by rfl, ?_⟩) ?_ ?_
          rotate_left
          · intro w'
            go_simp
            with_reducible rfl
          rotate_left
          · simp only [Act.put, List.setIfInBounds_toArray, List.set_cons_zero, List.set_cons_succ, i64_w, i32_w]
            rfl
          refine take_ (i := 2) (N := some 26) (v := ?_) (a' := ?_) #[true, true, true, true, false, false, false, false, false, false, false, false, false] rfl rfl (take_ofW HT_.out HW_.out (by kernel_rfl)) (fun _ _ _ h => h) (Or.inl ⟨by rfl, ?_⟩) hHeld ?_ ?_
          rotate_left
          · rintro w' ⟨s0, s1⟩
            go_simp
            with_reducible rfl
          rotate_left
          · simp only [Act.put, List.setIfInBounds_toArray, List.set_cons_zero, List.set_cons_succ, i64_w, i32_w]
            rfl
          refine one_ (i := 4) (N := some 28) #[true, true, true, true, true, false, false, false, false, false, false, false, false] rfl rfl (one_of HT_.out (by kernel_rfl)) (by decide) (fun K hK => ?_)
          refine goes_ Try.func19 (by kernel_rfl) rfl #[.slice A0 l0.length c0] (by rfl) rfl rfl (by (try simp only [List.map_toArray, List.map_cons, List.map_nil]); first | done | rfl | (simp only [List.length_drop, List.length_take]; rfl)) ?_
          with_reducible refine (flow_Check.calls _ _ l0 t348 t349 _ ?side1 ?side2 A48.out).mono ?_
          (case side1 => repeat (first | exact (Kd.C_below HR0.out HB.out) | (with_reducible refine Kd.C_alloc ?_ _) | (with_reducible refine Kd.C_drewN ?_ _) | (with_reducible refine Kd.C_drew ?_)))
          (case side2 => exact HC0.out)
          rintro e w56 ⟨rfl, hb⟩
          refine ⟨_, rfl, ?_⟩
          have n0_ := Aside0.mk (Kd.S_below (by (with_reducible repeat (first | apply Kd.S_alloc | apply Kd.S_drewN | apply Kd.S_drew)); exact HO344.out) hb)
          have n1_ := Aside0.mk (blk_below (g := gb347) (o := .cells #[.int .i64 t345, .int .i64 t346] 29 (0, 0)) (by (with_reducible repeat (first | refine blk_drewN ?_ _ | refine blk_drew ?_ | refine blk_alloc ?_ _)); exact BK347.out) hb)
          have n2_ := Aside0.mk (below_step (by repeat (first | (with_reducible first | exact HB.out | apply below_alloc | apply pw_below_drewN | apply below_drew1 | refine below_set ?_ GE347.out) | exact HB.out)) hb)
          clear HO344
          clear BK347
          clear HB
          have HO344 := n0_
          have BK347 := n1_
          have HB := n2_
          clear n0_ n1_ n2_
          (try clear hb)
          (try clear hb2)
          (try clear hk)
          (try clear hi)
          obtain ⟨Ao57, co57, eo57⟩ := Kd.S_slice HO344.out
          (first | subst eo57 | (injection eo57 with f1_ f2_ f3_; have f4_ := f1_.symm; have f5_ := f3_.symm; clear f1_ f2_ f3_; subst f4_; subst f5_))
          refine hK.out _ _ ⟨(blk_cell BK347.out 0).trans rfl, (blk_cell BK347.out 1).trans rfl⟩ (fun hHeld => ?_)
          clear hK K
          refine norm_ (a' := ?_) ?_ ?_
          rotate_left
          · show Act.put _ (some 28) _ = _
            simp only [Act.put, List.setIfInBounds_toArray, List.set_cons_zero, List.set_cons_succ, i64_w, i32_w]
            rfl
          refine pure_ (i := 5) (N := some 29) (v := ?_) (a' := ?_) #[true, true, true, true, true, true, false, false, false, false, false, false, false] rfl rfl (any_of HT_.out (by kernel_rfl)) (fun _ _ _ h => h) (Or.inl ⟨by rfl, ?_⟩) ?_ ?_
          rotate_left
          · intro w'
            go_simp
            with_reducible rfl
          rotate_left
          · simp only [Act.put, List.setIfInBounds_toArray, List.set_cons_zero, List.set_cons_succ, i64_w, i32_w]
            rfl
          refine pure_ (i := 6) (N := some 30) (v := ?_) (a' := ?_) #[true, true, true, true, true, true, true, false, false, false, false, false, false] rfl rfl (any_of HT_.out (by kernel_rfl)) (fun _ _ _ h => h) (Or.inl ⟨by rfl, ?_⟩) ?_ ?_
          rotate_left
          · intro w'
            go_simp
            with_reducible rfl
          rotate_left
          · simp only [Act.put, List.setIfInBounds_toArray, List.set_cons_zero, List.set_cons_succ, i64_w, i32_w]
            rfl
          refine pure_ (i := 7) (N := some 31) (v := ?_) (a' := ?_) #[true, true, true, true, true, true, true, true, false, false, false, false, false] rfl rfl (any_of HT_.out (by kernel_rfl)) (fun _ _ _ h => h) (Or.inl ⟨by rfl, ?_⟩) ?_ ?_
          rotate_left
          · intro w'
            go_simp
            with_reducible rfl
          rotate_left
          · simp only [Act.put, List.setIfInBounds_toArray, List.set_cons_zero, List.set_cons_succ, i64_w, i32_w]
            rfl
          refine pure_ (i := 8) (N := some 32) (v := ?_) (a' := ?_) #[true, true, true, true, true, true, true, true, true, false, false, false, false] rfl rfl (any_of HT_.out (by kernel_rfl)) (fun _ _ _ h => h) (Or.inl ⟨by rfl, ?_⟩) ?_ ?_
          rotate_left
          · intro w'
            go_simp
            with_reducible rfl
          rotate_left
          · simp only [Act.put, List.setIfInBounds_toArray, List.set_cons_zero, List.set_cons_succ, i64_w, i32_w]
            rfl
          refine pure_ (i := 9) (N := some 33) (v := ?_) (a' := ?_) #[true, true, true, true, true, true, true, true, true, true, false, false, false] rfl rfl (any_of HT_.out (by kernel_rfl)) (fun _ _ _ h => h) (Or.inl ⟨by rfl, ?_⟩) ?_ ?_
          rotate_left
          · intro w'
            go_simp
            with_reducible rfl
          rotate_left
          · simp only [Act.put, List.setIfInBounds_toArray, List.set_cons_zero, List.set_cons_succ, i64_w, i32_w]
            rfl
          refine pure_ (i := 10) (N := some 34) (v := ?_) (a' := ?_) #[true, true, true, true, true, true, true, true, true, true, true, false, false] rfl rfl (any_of HT_.out (by kernel_rfl)) (fun _ _ _ h => h) (Or.inl ⟨by rfl, ?_⟩) ?_ ?_
          rotate_left
          · intro w'
            go_simp
            with_reducible rfl
          rotate_left
          · simp only [Act.put, List.setIfInBounds_toArray, List.set_cons_zero, List.set_cons_succ, i64_w, i32_w]
            rfl
          refine pure_ (i := 11) (N := some 35) (v := ?_) (a' := ?_) #[true, true, true, true, true, true, true, true, true, true, true, true, false] rfl rfl (any_of HT_.out (by kernel_rfl)) (fun _ _ _ h => h) (Or.inl ⟨by rfl, ?_⟩) ?_ ?_
          rotate_left
          · intro w'
            go_simp
            with_reducible rfl
          rotate_left
          · simp only [Act.put, List.setIfInBounds_toArray, List.set_cons_zero, List.set_cons_succ, i64_w, i32_w]
            rfl
          refine pure_ (i := 12) (N := some 2) (v := ?_) (a' := ?_) #[true, true, true, true, true, true, true, true, true, true, true, true, true] rfl rfl (any_of HT_.out (by kernel_rfl)) (fun _ _ _ h => h) (Or.inl ⟨by rfl, ?_⟩) ?_ ?_
          rotate_left
          · intro w'
            go_simp
            with_reducible rfl
          rotate_left
          · simp only [Act.put, List.setIfInBounds_toArray, List.set_cons_zero, List.set_cons_succ, i64_w, i32_w]
            rfl
          refine done_ (done_of HT_.out (by kernel_rfl)) ?_
          try go_wp2
          go_ret
          exact ⟨by first | rfl | (simp [errW_none, errW_some] <;> rfl) | (simp [*, errW_none, errW_some] <;> rfl), by repeat (first | (with_reducible first | exact HB.out | apply below_alloc | apply pw_below_drewN | apply below_drew1 | refine below_set ?_ GE347.out) | exact HB.out)⟩
        · rw [if_neg c49] at H
          have c49b0 : (t345 == t348 && (t346 == t349)) = false := by simpa using c49
          (try (have c49b1 : decide (t345 = t348 && (t346 == t349)) = false := by simpa using c49))
          (try (have c49b2 : (t345 == t348 && (t346 == t349)) = false := by simpa using c49))
          (try (have c49b3 : ¬ (t345 = t348 && (t346 == t349)) := by simpa using c49))
          clear c49
          exact absurd H (by simp)
      · replace c47 := Bool.eq_false_iff.mpr c47
        subst c47
        have H1 : (none) = some r := by rw [if_neg (show ¬ (false = true) by decide)] at H; exact H
        clear H
        have H := H1
        clear H1
        exact absurd H (by simp)

end Go.Proofs.Ytimflmgdnfpodaa.PAll
