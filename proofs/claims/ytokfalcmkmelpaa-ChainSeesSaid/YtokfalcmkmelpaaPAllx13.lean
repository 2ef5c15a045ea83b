-- WRITTEN BY hand.py of this session, over the kit's print: a text of this seat
import Derived.Test.YtokfalcmkmelpaaPAllx0
import Derived.Test.YtokfalcmkmelpaaPAllx2
import Derived.Test.YtokfalcmkmelpaaPAllx3
import Derived.Test.YtokfalcmkmelpaaPAllx4
import Derived.Test.YtokfalcmkmelpaaPAllx6
import Derived.Test.YtokfalcmkmelpaaPAllx7
import Derived.Test.YtokfalcmkmelpaaPAllx8
import Derived.Test.YtokfalcmkmelpaaPAllx9
import Derived.Test.YtokfalcmkmelpaaPAllx10
import Derived.Test.YtokfalcmkmelpaaPAllx11
import Derived.Test.YtokfalcmkmelpaaPAllx12
namespace Go.Proofs.Ytokfalcmkmelpaa.PAll
open Go.RowKit Go.Proofs.YtokfalcmkmelpaaW.PrintWords Go.Proofs.YtokfalcmkmelpaaW.PrintLast Go.Proofs.YtokfalcmkmelpaaW.PrintMore
attribute [local go_sem] max2_int min2_int max_two min_two max_three min_three max_four min_four   -- for this text's walks alone
set_option linter.unusedVariables false
set_option linter.unusedSimpArgs false

/-! ### chaperonlaw10_ChainSees: function 3 -/
def chaperonlaw10_ChainSees.j0 : Nat → ByteArray → List (S37) → Int → Bool → Option (Bool)
  | 0, _, _, _, _ => none
  | k + 1, x0, x1, x2, x20 => if x20 = true then ((chaperonlaw10_awake.f k).bind fun t153 => (some t153)) else ((chaperonkit_CopyLayers.f x1).bind fun t154 => ((chain_Classes.f k x0 t154).bind fun t157 => ((chain_Bound.f x2).bind fun bt160 => ((chaperonref10_Bound.f x2).bind fun bt162 => ((chaperonref10_Classes.f k x0 x1).bind fun t164 => ((chaperonkit_SameTexts.f k t157 t164).bind fun t167 => (if t167 = true then ((chain_Seen.f x0 t154).bind fun t168 => ((chaperonref10_Seen.f x0 x1).bind fun t169 => (if t168.toList = t169.toList then (if bt160.1 = bt162.1 then ((chaperonkit_OverTexts.f k t157).bind fun t170 => (if bt160.2 = bt162.2 then ((chaperonkit_SameLayers.f k t154 x1).bind fun t171 => (if t171 = true then ((chaperonlaw10_awake.f k).bind fun t172 => (some t172)) else (none))) else (none))) else ((chaperonkit_OverTexts.f k t157).bind fun t173 => (none))) else ((chaperonkit_OverTexts.f k t157).bind fun t174 => (none))))) else ((chaperonkit_OverTexts.f k t157).bind fun t175 => (none)))))))))
def chaperonlaw10_ChainSees.f (k : Nat) (a0 : ByteArray) (l1 : List (S37)) (a2 : Int) : Option (Bool) := (chaperonlaw10_long.f k l1).bind fun t152 => (if t152 = true then (chaperonlaw10_ChainSees.j0 k a0 l1 a2 true) else (chaperonlaw10_ChainSees.j0 k a0 l1 a2 (decide ((a0.size : Int) > 60))))
theorem chaperonlaw10_ChainSees.mono_l : ∀ k, (∀ y0 y1 y2 y3, LeO (chaperonlaw10_ChainSees.j0 k y0 y1 y2 y3) (chaperonlaw10_ChainSees.j0 (k + 1) y0 y1 y2 y3))
  | 0 => fun _ _ _ _ r h => by simp [chaperonlaw10_ChainSees.j0] at h
  | k + 1 => by
    have ih0 := chaperonlaw10_ChainSees.mono_l k
    · intro y0 y1 y2 y3
      unfold chaperonlaw10_ChainSees.j0
      repeat' first
      | (with_reducible exact ih0 _ _ _ _)
      | (with_reducible exact chain_Classes.mono _ _ _)
      | (with_reducible exact chaperonkit_OverTexts.mono _ _)
      | (with_reducible exact chaperonkit_SameLayers.mono _ _ _)
      | (with_reducible exact chaperonkit_SameTexts.mono _ _ _)
      | (with_reducible exact chaperonlaw10_awake.mono _)
      | (with_reducible exact chaperonlaw10_long.mono _ _)
      | (with_reducible exact chaperonref10_Classes.mono _ _ _)
      | (with_reducible exact LeO.refl _)
      | (with_reducible exact LeO.none _)
      | (with_reducible refine LeO.ite ?_ ?_)
      | (with_reducible refine LeO.bind ?_ (fun _ => ?_))
      | exact ih0 _ _ _ _
      | exact chain_Classes.mono _ _ _
      | exact chaperonkit_OverTexts.mono _ _
      | exact chaperonkit_SameLayers.mono _ _ _
      | exact chaperonkit_SameTexts.mono _ _ _
      | exact chaperonlaw10_awake.mono _
      | exact chaperonlaw10_long.mono _ _
      | exact chaperonref10_Classes.mono _ _ _
      | exact LeO.none _
      | refine LeO.ite ?_ ?_
      | refine LeO.bind ?_ (fun _ => ?_)
theorem chaperonlaw10_ChainSees.mono : ∀ a0 a1 a2 k, LeO (chaperonlaw10_ChainSees.f k a0 a1 a2) (chaperonlaw10_ChainSees.f (k + 1) a0 a1 a2) := by
  intro a0 a1 a2 k
  have ih0 := chaperonlaw10_ChainSees.mono_l k
  unfold chaperonlaw10_ChainSees.f
  repeat' first
      | (with_reducible exact ih0 _ _ _ _)
      | (with_reducible exact chain_Classes.mono _ _ _)
      | (with_reducible exact chaperonkit_OverTexts.mono _ _)
      | (with_reducible exact chaperonkit_SameLayers.mono _ _ _)
      | (with_reducible exact chaperonkit_SameTexts.mono _ _ _)
      | (with_reducible exact chaperonlaw10_awake.mono _)
      | (with_reducible exact chaperonlaw10_long.mono _ _)
      | (with_reducible exact chaperonref10_Classes.mono _ _ _)
      | (with_reducible exact LeO.refl _)
      | (with_reducible exact LeO.none _)
      | (with_reducible refine LeO.ite ?_ ?_)
      | (with_reducible refine LeO.bind ?_ (fun _ => ?_))
      | exact ih0 _ _ _ _
      | exact chain_Classes.mono _ _ _
      | exact chaperonkit_OverTexts.mono _ _
      | exact chaperonkit_SameLayers.mono _ _ _
      | exact chaperonkit_SameTexts.mono _ _ _
      | exact chaperonlaw10_awake.mono _
      | exact chaperonlaw10_long.mono _ _
      | exact chaperonref10_Classes.mono _ _ _
      | exact LeO.none _
      | refine LeO.ite ?_ ?_
      | refine LeO.bind ?_ (fun _ => ?_)
set_option maxHeartbeats 8000000 in
set_option maxRecDepth 100000 in
theorem chaperonlaw10_ChainSees.calls (k : Nat) (a0 : ByteArray) (A1 : Option Addr) (c1 : Nat) (l1 : List (S37)) (a2 : Int) (r : Bool) (w : World) (hr1 : Kd.C k37 w A1 l1.length l1) (hc1 : l1.length ≤ c1) (h : chaperonlaw10_ChainSees.f k a0 l1 a2 = some r) :
    Calls Try.prog 3 #[.string a0, .slice A1 l1.length c1, .int .i64 a2] w fun e w' => e = .returned (.bool r) ∧ Below w.heap.size w w' := by
  have HR1 := Aside0.mk hr1
  have HC1 := Aside0.mk hc1
  clear hr1 hc1
  have HB := Aside0.mk (Below.refl w.heap.size w)
  have H : ((chaperonlaw10_long.f k l1).bind fun t152 => (if t152 = true then (chaperonlaw10_ChainSees.j0 k a0 l1 a2 true) else (chaperonlaw10_ChainSees.j0 k a0 l1 a2 (decide ((a0.size : Int) > 60))))) = some r := h
  clear h
  have HC4 := Aside0.mk H
  clear H
  go_enter Try.func3, Try.ntmps3
  go_upto_region 1 with (fail)
  go_cut [20] (fun v20 wc => ∃ (kq : Nat) (x20_3 : Bool), v20 = .bool x20_3 ∧ Aside0 (chaperonlaw10_ChainSees.j0 kq a0 l1 a2 x20_3 = some r) ∧ Aside0 (kq ≤ k) ∧ Aside0 (Below w.heap.size w wc))
  case first =>
    have H := HC4.out
    clear HC4
    replace H := Option.bind_eq_some_iff.mp H
    obtain ⟨t152, A50, H⟩ := H
    replace H : (if t152 = true then (chaperonlaw10_ChainSees.j0 k a0 l1 a2 true) else (chaperonlaw10_ChainSees.j0 k a0 l1 a2 (decide ((a0.size : Int) > 60)))) = some r := H
    have A5 := Aside0.mk A50
    clear A50
    by_cases c6 : t152 = true
    · subst c6
      have H1 : (chaperonlaw10_ChainSees.j0 k a0 l1 a2 true) = some r := by rw [if_pos rfl] at H; exact H
      clear H
      have H := H1
      clear H1
      have H' := Aside0.mk H
      clear H
      go_wp2_with (first | ((with_reducible refine gate_callee (f := 9) rfl ?_); refine goesL_ (some 15) rfl rfl Try.func9 (by kernel_rfl) rfl #[.slice A1 l1.length c1] rfl (by (try simp only [List.map_toArray, List.map_cons, List.map_nil]); first | done | rfl | (simp only [List.length_drop, List.length_take]; rfl)) ?_; (with_reducible refine (chaperonlaw10_long.calls k _ _ l1 true _ ?side1 ?side2 A5.out).mono ?_); (case side1 => repeat (first | exact (Kd.C_below HR1.out HB.out) | (with_reducible refine Kd.C_alloc ?_ _) | (with_reducible refine Kd.C_drewN ?_ _) | (with_reducible refine Kd.C_drew ?_))); (case side2 => exact HC1.out); rintro e w' ⟨rfl, ⟨nd, rfl⟩⟩; refine ⟨_, rfl, ?_⟩))
      go_meet
      case rel => exact ⟨_, (true), (by first | rfl | (simp; done) | (simp [*]; done)), H', ⟨by first | omega | exact Nat.le_refl _⟩, ⟨by repeat (first | (with_reducible first | exact HB.out | apply below_alloc | apply pw_below_drewN | apply below_drew1) | exact HB.out)⟩⟩
    · replace c6 := Bool.eq_false_iff.mpr c6
      subst c6
      have H1 : (chaperonlaw10_ChainSees.j0 k a0 l1 a2 (decide ((a0.size : Int) > 60))) = some r := by rw [if_neg (show ¬ (false = true) by decide)] at H; exact H
      clear H
      have H := H1
      clear H1
      have H' := Aside0.mk H
      clear H
      go_wp2_with (first | ((with_reducible refine gate_callee (f := 9) rfl ?_); refine goesL_ (some 15) rfl rfl Try.func9 (by kernel_rfl) rfl #[.slice A1 l1.length c1] rfl (by (try simp only [List.map_toArray, List.map_cons, List.map_nil]); first | done | rfl | (simp only [List.length_drop, List.length_take]; rfl)) ?_; (with_reducible refine (chaperonlaw10_long.calls k _ _ l1 false _ ?side1 ?side2 A5.out).mono ?_); (case side1 => repeat (first | exact (Kd.C_below HR1.out HB.out) | (with_reducible refine Kd.C_alloc ?_ _) | (with_reducible refine Kd.C_drewN ?_ _) | (with_reducible refine Kd.C_drew ?_))); (case side2 => exact HC1.out); rintro e w' ⟨rfl, ⟨nd, rfl⟩⟩; refine ⟨_, rfl, ?_⟩))
      go_meet
      case rel => exact ⟨_, (decide ((a0.size : Int) > 60)), (by first | rfl | (simp; done) | (simp [*]; done)), H', ⟨by first | omega | exact Nat.le_refl _⟩, ⟨by repeat (first | (with_reducible first | exact HB.out | apply below_alloc | apply pw_below_drewN | apply below_drew1) | exact HB.out)⟩⟩
  case rest =>
    clear HC4
    try clear c1
    try clear p2
    try clear c3
    try clear c6
    obtain ⟨kq, x20_3, rfl, HA, HJ3, HB⟩ := hcut
    cases kq with
    | zero => exact absurd HA.out (by simp [chaperonlaw10_ChainSees.j0])
    | succ kj3 =>
      have H := HA.out
      clear HA
      simp only [chaperonlaw10_ChainSees.j0] at H
      by_cases c7 : x20_3 = true
      · subst c7
        have H1 : ((chaperonlaw10_awake.f kj3).bind fun t153 => (some t153)) = some r := by rw [if_pos rfl] at H; exact H
        clear H
        have H := H1
        clear H1
        replace H := Option.bind_eq_some_iff.mp H
        obtain ⟨t153, A80, H⟩ := H
        replace H : (some t153) = some r := H
        have A8 := Aside0.mk A80
        clear A80
        obtain rfl := Option.some.inj H
        go_wp2_with (first | ((with_reducible refine gate_callee (f := 10) rfl ?_); refine goesL_ (some 21) rfl rfl Try.func10 (by kernel_rfl) rfl #[] rfl (by (try simp only [List.map_toArray, List.map_cons, List.map_nil]); first | done | rfl | (simp only [List.length_drop, List.length_take]; rfl)) ?_; (with_reducible refine (chaperonlaw10_awake.calls kj3  t153 _ A8.out).mono ?_); rintro e w9 ⟨rfl, hb⟩; refine ⟨_, rfl, ?_⟩; have n0_ := Aside0.mk (below_step (by repeat (first | (with_reducible first | exact HB.out | apply below_alloc | apply pw_below_drewN | apply below_drew1) | exact HB.out)) hb); clear HB; have HB := n0_; clear n0_; (try clear hb); (try clear hb2); (try clear hk); (try clear hi)))
        go_ret
        exact ⟨by first | rfl | (simp [errW_none, errW_some] <;> rfl) | (simp [*, errW_none, errW_some] <;> rfl), by repeat (first | (with_reducible first | exact HB.out | apply below_alloc | apply pw_below_drewN | apply below_drew1) | exact HB.out)⟩
      · replace c7 := Bool.eq_false_iff.mpr c7
        subst c7
        have H1 : ((chaperonkit_CopyLayers.f l1).bind fun t154 => ((chain_Classes.f kj3 a0 t154).bind fun t157 => ((chain_Bound.f a2).bind fun bt160 => ((chaperonref10_Bound.f a2).bind fun bt162 => ((chaperonref10_Classes.f kj3 a0 l1).bind fun t164 => ((chaperonkit_SameTexts.f kj3 t157 t164).bind fun t167 => (if t167 = true then ((chain_Seen.f a0 t154).bind fun t168 => ((chaperonref10_Seen.f a0 l1).bind fun t169 => (if t168.toList = t169.toList then (if bt160.1 = bt162.1 then ((chaperonkit_OverTexts.f kj3 t157).bind fun t170 => (if bt160.2 = bt162.2 then ((chaperonkit_SameLayers.f kj3 t154 l1).bind fun t171 => (if t171 = true then ((chaperonlaw10_awake.f kj3).bind fun t172 => (some t172)) else (none))) else (none))) else ((chaperonkit_OverTexts.f kj3 t157).bind fun t173 => (none))) else ((chaperonkit_OverTexts.f kj3 t157).bind fun t174 => (none))))) else ((chaperonkit_OverTexts.f kj3 t157).bind fun t175 => (none))))))))) = some r := by rw [if_neg (show ¬ (false = true) by decide)] at H; exact H
        clear H
        have H := H1
        clear H1
        replace H := Option.bind_eq_some_iff.mp H
        obtain ⟨t154, A100, H⟩ := H
        replace H : ((chain_Classes.f kj3 a0 t154).bind fun t157 => ((chain_Bound.f a2).bind fun bt160 => ((chaperonref10_Bound.f a2).bind fun bt162 => ((chaperonref10_Classes.f kj3 a0 l1).bind fun t164 => ((chaperonkit_SameTexts.f kj3 t157 t164).bind fun t167 => (if t167 = true then ((chain_Seen.f a0 t154).bind fun t168 => ((chaperonref10_Seen.f a0 l1).bind fun t169 => (if t168.toList = t169.toList then (if bt160.1 = bt162.1 then ((chaperonkit_OverTexts.f kj3 t157).bind fun t170 => (if bt160.2 = bt162.2 then ((chaperonkit_SameLayers.f kj3 t154 l1).bind fun t171 => (if t171 = true then ((chaperonlaw10_awake.f kj3).bind fun t172 => (some t172)) else (none))) else (none))) else ((chaperonkit_OverTexts.f kj3 t157).bind fun t173 => (none))) else ((chaperonkit_OverTexts.f kj3 t157).bind fun t174 => (none))))) else ((chaperonkit_OverTexts.f kj3 t157).bind fun t175 => (none)))))))) = some r := H
        have A10 := Aside0.mk A100
        clear A100
        replace H := Option.bind_eq_some_iff.mp H
        obtain ⟨t157, A110, H⟩ := H
        replace H : ((chain_Bound.f a2).bind fun bt160 => ((chaperonref10_Bound.f a2).bind fun bt162 => ((chaperonref10_Classes.f kj3 a0 l1).bind fun t164 => ((chaperonkit_SameTexts.f kj3 t157 t164).bind fun t167 => (if t167 = true then ((chain_Seen.f a0 t154).bind fun t168 => ((chaperonref10_Seen.f a0 l1).bind fun t169 => (if t168.toList = t169.toList then (if bt160.1 = bt162.1 then ((chaperonkit_OverTexts.f kj3 t157).bind fun t170 => (if bt160.2 = bt162.2 then ((chaperonkit_SameLayers.f kj3 t154 l1).bind fun t171 => (if t171 = true then ((chaperonlaw10_awake.f kj3).bind fun t172 => (some t172)) else (none))) else (none))) else ((chaperonkit_OverTexts.f kj3 t157).bind fun t173 => (none))) else ((chaperonkit_OverTexts.f kj3 t157).bind fun t174 => (none))))) else ((chaperonkit_OverTexts.f kj3 t157).bind fun t175 => (none))))))) = some r := H
        have A11 := Aside0.mk A110
        clear A110
        replace H := Option.bind_eq_some_iff.mp H
        obtain ⟨⟨t160, t161⟩, A120, H⟩ := H
        replace H : ((chaperonref10_Bound.f a2).bind fun bt162 => ((chaperonref10_Classes.f kj3 a0 l1).bind fun t164 => ((chaperonkit_SameTexts.f kj3 t157 t164).bind fun t167 => (if t167 = true then ((chain_Seen.f a0 t154).bind fun t168 => ((chaperonref10_Seen.f a0 l1).bind fun t169 => (if t168.toList = t169.toList then (if t160 = bt162.1 then ((chaperonkit_OverTexts.f kj3 t157).bind fun t170 => (if t161 = bt162.2 then ((chaperonkit_SameLayers.f kj3 t154 l1).bind fun t171 => (if t171 = true then ((chaperonlaw10_awake.f kj3).bind fun t172 => (some t172)) else (none))) else (none))) else ((chaperonkit_OverTexts.f kj3 t157).bind fun t173 => (none))) else ((chaperonkit_OverTexts.f kj3 t157).bind fun t174 => (none))))) else ((chaperonkit_OverTexts.f kj3 t157).bind fun t175 => (none)))))) = some r := H
        have A12 := Aside0.mk A120
        clear A120
        replace H := Option.bind_eq_some_iff.mp H
        obtain ⟨⟨t162, t163⟩, A130, H⟩ := H
        replace H : ((chaperonref10_Classes.f kj3 a0 l1).bind fun t164 => ((chaperonkit_SameTexts.f kj3 t157 t164).bind fun t167 => (if t167 = true then ((chain_Seen.f a0 t154).bind fun t168 => ((chaperonref10_Seen.f a0 l1).bind fun t169 => (if t168.toList = t169.toList then (if t160 = t162 then ((chaperonkit_OverTexts.f kj3 t157).bind fun t170 => (if t161 = t163 then ((chaperonkit_SameLayers.f kj3 t154 l1).bind fun t171 => (if t171 = true then ((chaperonlaw10_awake.f kj3).bind fun t172 => (some t172)) else (none))) else (none))) else ((chaperonkit_OverTexts.f kj3 t157).bind fun t173 => (none))) else ((chaperonkit_OverTexts.f kj3 t157).bind fun t174 => (none))))) else ((chaperonkit_OverTexts.f kj3 t157).bind fun t175 => (none))))) = some r := H
        have A13 := Aside0.mk A130
        clear A130
        replace H := Option.bind_eq_some_iff.mp H
        obtain ⟨t164, A140, H⟩ := H
        replace H : ((chaperonkit_SameTexts.f kj3 t157 t164).bind fun t167 => (if t167 = true then ((chain_Seen.f a0 t154).bind fun t168 => ((chaperonref10_Seen.f a0 l1).bind fun t169 => (if t168.toList = t169.toList then (if t160 = t162 then ((chaperonkit_OverTexts.f kj3 t157).bind fun t170 => (if t161 = t163 then ((chaperonkit_SameLayers.f kj3 t154 l1).bind fun t171 => (if t171 = true then ((chaperonlaw10_awake.f kj3).bind fun t172 => (some t172)) else (none))) else (none))) else ((chaperonkit_OverTexts.f kj3 t157).bind fun t173 => (none))) else ((chaperonkit_OverTexts.f kj3 t157).bind fun t174 => (none))))) else ((chaperonkit_OverTexts.f kj3 t157).bind fun t175 => (none)))) = some r := H
        have A14 := Aside0.mk A140
        clear A140
        replace H := Option.bind_eq_some_iff.mp H
        obtain ⟨t167, A150, H⟩ := H
        replace H : (if t167 = true then ((chain_Seen.f a0 t154).bind fun t168 => ((chaperonref10_Seen.f a0 l1).bind fun t169 => (if t168.toList = t169.toList then (if t160 = t162 then ((chaperonkit_OverTexts.f kj3 t157).bind fun t170 => (if t161 = t163 then ((chaperonkit_SameLayers.f kj3 t154 l1).bind fun t171 => (if t171 = true then ((chaperonlaw10_awake.f kj3).bind fun t172 => (some t172)) else (none))) else (none))) else ((chaperonkit_OverTexts.f kj3 t157).bind fun t173 => (none))) else ((chaperonkit_OverTexts.f kj3 t157).bind fun t174 => (none))))) else ((chaperonkit_OverTexts.f kj3 t157).bind fun t175 => (none))) = some r := H
        have A15 := Aside0.mk A150
        clear A150
        by_cases c16 : t167 = true
        · subst c16
          have H1 : ((chain_Seen.f a0 t154).bind fun t168 => ((chaperonref10_Seen.f a0 l1).bind fun t169 => (if t168.toList = t169.toList then (if t160 = t162 then ((chaperonkit_OverTexts.f kj3 t157).bind fun t170 => (if t161 = t163 then ((chaperonkit_SameLayers.f kj3 t154 l1).bind fun t171 => (if t171 = true then ((chaperonlaw10_awake.f kj3).bind fun t172 => (some t172)) else (none))) else (none))) else ((chaperonkit_OverTexts.f kj3 t157).bind fun t173 => (none))) else ((chaperonkit_OverTexts.f kj3 t157).bind fun t174 => (none))))) = some r := by rw [if_pos rfl] at H; exact H
          clear H
          have H := H1
          clear H1
          replace H := Option.bind_eq_some_iff.mp H
          obtain ⟨t168, A170, H⟩ := H
          replace H : ((chaperonref10_Seen.f a0 l1).bind fun t169 => (if t168.toList = t169.toList then (if t160 = t162 then ((chaperonkit_OverTexts.f kj3 t157).bind fun t170 => (if t161 = t163 then ((chaperonkit_SameLayers.f kj3 t154 l1).bind fun t171 => (if t171 = true then ((chaperonlaw10_awake.f kj3).bind fun t172 => (some t172)) else (none))) else (none))) else ((chaperonkit_OverTexts.f kj3 t157).bind fun t173 => (none))) else ((chaperonkit_OverTexts.f kj3 t157).bind fun t174 => (none)))) = some r := H
          have A17 := Aside0.mk A170
          clear A170
          replace H := Option.bind_eq_some_iff.mp H
          obtain ⟨t169, A180, H⟩ := H
          replace H : (if t168.toList = t169.toList then (if t160 = t162 then ((chaperonkit_OverTexts.f kj3 t157).bind fun t170 => (if t161 = t163 then ((chaperonkit_SameLayers.f kj3 t154 l1).bind fun t171 => (if t171 = true then ((chaperonlaw10_awake.f kj3).bind fun t172 => (some t172)) else (none))) else (none))) else ((chaperonkit_OverTexts.f kj3 t157).bind fun t173 => (none))) else ((chaperonkit_OverTexts.f kj3 t157).bind fun t174 => (none))) = some r := H
          have A18 := Aside0.mk A180
          clear A180
          by_cases c19 : t168.toList = t169.toList
          · rw [if_pos c19] at H
            have c19b0 : (t168.toList == t169.toList) = true := beq_iff_eq.mpr c19
            have c19b1 : (t168.toList != t169.toList) = false := bne_eq_false_iff_eq.mpr c19
            clear c19
            by_cases c20 : t160 = t162
            · rw [if_pos c20] at H
              have c20b0 : (t160 == t162) = true := beq_iff_eq.mpr c20
              have c20b1 : (t160 != t162) = false := bne_eq_false_iff_eq.mpr c20
              clear c20
              replace H := Option.bind_eq_some_iff.mp H
              obtain ⟨t170, A210, H⟩ := H
              replace H : (if t161 = t163 then ((chaperonkit_SameLayers.f kj3 t154 l1).bind fun t171 => (if t171 = true then ((chaperonlaw10_awake.f kj3).bind fun t172 => (some t172)) else (none))) else (none)) = some r := H
              have A21 := Aside0.mk A210
              clear A210
              by_cases c22 : t161 = t163
              · rw [if_pos c22] at H
                have c22b0 : (t161 == t163) = true := beq_iff_eq.mpr c22
                have c22b1 : (t161 != t163) = false := bne_eq_false_iff_eq.mpr c22
                clear c22
                replace H := Option.bind_eq_some_iff.mp H
                obtain ⟨t171, A230, H⟩ := H
                replace H : (if t171 = true then ((chaperonlaw10_awake.f kj3).bind fun t172 => (some t172)) else (none)) = some r := H
                have A23 := Aside0.mk A230
                clear A230
                by_cases c24 : t171 = true
                · subst c24
                  have H1 : ((chaperonlaw10_awake.f kj3).bind fun t172 => (some t172)) = some r := by rw [if_pos rfl] at H; exact H
                  clear H
                  have H := H1
                  clear H1
                  replace H := Option.bind_eq_some_iff.mp H
                  obtain ⟨t172, A250, H⟩ := H
                  replace H : (some t172) = some r := H
                  have A25 := Aside0.mk A250
                  clear A250
                  obtain rfl := Option.some.inj H
                  go_wp2_with (first | ((with_reducible refine gate_callee (f := 11) rfl ?_); refine goesL_ (some 23) rfl rfl Try.func11 (by kernel_rfl) rfl #[.slice A1 l1.length c1] rfl (by (try simp only [List.map_toArray, List.map_cons, List.map_nil]); first | done | rfl | (simp only [List.length_drop, List.length_take]; rfl)) ?_; (with_reducible refine (chaperonkit_CopyLayers.calls _ _ l1 t154 _ ?side1 ?side2 A10.out).mono ?_); (case side1 => repeat (first | exact (Kd.C_below HR1.out HB.out) | (with_reducible refine Kd.C_alloc ?_ _) | (with_reducible refine Kd.C_drewN ?_ _) | (with_reducible refine Kd.C_drew ?_))); (case side2 => exact HC1.out); rintro e w26 ⟨v155, rfl, ho0, hb⟩; refine ⟨_, rfl, ?_⟩; have n0_ := Aside0.mk (Kd.R_lower ho0 (below_size (by repeat (first | (with_reducible first | exact HB.out | apply below_alloc | apply pw_below_drewN | apply below_drew1) | exact HB.out)))); have n1_ := Aside0.mk (below_step (by repeat (first | (with_reducible first | exact HB.out | apply below_alloc | apply pw_below_drewN | apply below_drew1) | exact HB.out)) hb); clear HB; have HO156 := n0_; have HB := n1_; clear n0_ n1_; (try clear hb); (try clear hb2); (try clear hk); (try clear hi); (try clear ho0); obtain ⟨Ao27, co27, eo27⟩ := Kd.R_slice HO156.out; subst eo27) | ((with_reducible refine gate_callee (f := 12) rfl ?_); refine goesL_ (some 26) rfl rfl Try.func12 (by kernel_rfl) rfl #[.string a0, .slice Ao27 t154.length co27] rfl (by (try simp only [List.map_toArray, List.map_cons, List.map_nil]); first | done | rfl | (simp only [List.length_drop, List.length_take]; rfl)) ?_; (with_reducible refine (chain_Classes.calls kj3 a0 _ _ t154 t157 _ ?side1 ?side2 A11.out).mono ?_); (case side1 => repeat (first | exact (Kd.R_reads' HO156.out).2.2 | (with_reducible refine Kd.C_alloc ?_ _) | (with_reducible refine Kd.C_drewN ?_ _) | (with_reducible refine Kd.C_drew ?_))); (case side2 => exact (Kd.R_reads' HO156.out).2.1); rintro e w28 ⟨v158, rfl, ho0, hb⟩; refine ⟨_, rfl, ?_⟩; have n0_ := Aside0.mk (Kd.R_below (by (with_reducible repeat (first | apply Kd.R_alloc | apply Kd.R_drewN | apply Kd.R_drew)); exact HO156.out) hb); have n1_ := Aside0.mk (Kd.R_lower ho0 (below_size (by repeat (first | (with_reducible first | exact HB.out | apply below_alloc | apply pw_below_drewN | apply below_drew1) | exact HB.out)))); have n2_ := Aside0.mk (below_step (by repeat (first | (with_reducible first | exact HB.out | apply below_alloc | apply pw_below_drewN | apply below_drew1) | exact HB.out)) hb); clear HO156; clear HB; have HO156 := n0_; have HO159 := n1_; have HB := n2_; clear n0_ n1_ n2_; (try clear hb); (try clear hb2); (try clear hk); (try clear hi); (try clear ho0)) | ((with_reducible refine gate_callee (f := 13) rfl ?_); refine goesL_ (some 29) rfl rfl Try.func13 (by kernel_rfl) rfl #[.int .i64 a2] rfl (by (try simp only [List.map_toArray, List.map_cons, List.map_nil]); first | done | rfl | (simp only [List.length_drop, List.length_take]; rfl)) ?_; (with_reducible refine (chain_Bound.calls a2 t160 t161 _ A12.out).mono ?_); rintro e w' ⟨rfl, ⟨nd, rfl⟩⟩; refine ⟨_, rfl, ?_⟩) | ((with_reducible refine gate_callee (f := 14) rfl ?_); refine goesL_ (some 34) rfl rfl Try.func14 (by kernel_rfl) rfl #[.int .i64 a2] rfl (by (try simp only [List.map_toArray, List.map_cons, List.map_nil]); first | done | rfl | (simp only [List.length_drop, List.length_take]; rfl)) ?_; (with_reducible refine (chaperonref10_Bound.calls a2 t162 t163 _ A13.out).mono ?_); rintro e w' ⟨rfl, ⟨nd, rfl⟩⟩; refine ⟨_, rfl, ?_⟩) | ((with_reducible refine gate_callee (f := 16) rfl ?_); refine goesL_ (some 40) rfl rfl Try.func16 (by kernel_rfl) rfl #[.string a0, .slice A1 l1.length c1] rfl (by (try simp only [List.map_toArray, List.map_cons, List.map_nil]); first | done | rfl | (simp only [List.length_drop, List.length_take]; rfl)) ?_; (with_reducible refine (chaperonref10_Classes.calls kj3 a0 _ _ l1 t164 _ ?side1 ?side2 A14.out).mono ?_); (case side1 => repeat (first | exact (Kd.C_below HR1.out (by repeat (first | (with_reducible first | exact HB.out | apply below_alloc | apply pw_below_drewN | apply below_drew1) | exact HB.out))) | (with_reducible refine Kd.C_alloc ?_ _) | (with_reducible refine Kd.C_drewN ?_ _) | (with_reducible refine Kd.C_drew ?_))); (case side2 => exact HC1.out); rintro e w29 ⟨v165, rfl, ho0, hb⟩; refine ⟨_, rfl, ?_⟩; have n0_ := Aside0.mk (Kd.R_below (by (with_reducible repeat (first | apply Kd.R_alloc | apply Kd.R_drewN | apply Kd.R_drew)); exact HO156.out) hb); have n1_ := Aside0.mk (Kd.R_elder' (by (with_reducible repeat (first | apply Kd.R_alloc | apply Kd.R_drewN | apply Kd.R_drew)); exact HO159.out) (Kd.R_base ho0) hb); have n2_ := Aside0.mk (Kd.R_lower (Kd.R_new' ho0 (Kd.R_lt (by (with_reducible repeat (first | apply Kd.R_alloc | apply Kd.R_drewN | apply Kd.R_drew)); exact HO159.out))) (below_size (by repeat (first | (with_reducible first | exact HB.out | apply below_alloc | apply pw_below_drewN | apply below_drew1) | exact HB.out)))); have n3_ := Aside0.mk (below_step (by repeat (first | (with_reducible first | exact HB.out | apply below_alloc | apply pw_below_drewN | apply below_drew1) | exact HB.out)) hb); clear HO156; clear HO159; clear HB; have HO156 := n0_; have HO159 := n1_; have HO166 := n2_; have HB := n3_; clear n0_ n1_ n2_ n3_; (try clear hb); (try clear hb2); (try clear hk); (try clear hi); (try clear ho0); obtain ⟨Ao30, co30, eo30⟩ := Kd.R_slice HO159.out; subst eo30; obtain ⟨Ao31, co31, eo31⟩ := Kd.R_slice HO166.out; subst eo31) | ((with_reducible refine gate_callee (f := 15) rfl ?_); refine goesL_ (some 41) rfl rfl Try.func15 (by kernel_rfl) rfl #[.slice Ao30 t157.length co30, .slice Ao31 t164.length co31] rfl (by (try simp only [List.map_toArray, List.map_cons, List.map_nil]); first | done | rfl | (simp only [List.length_drop, List.length_take]; rfl)) ?_; (with_reducible refine (chaperonkit_SameTexts.calls kj3 _ _ t157 _ _ t164 true _ ?side1 ?side2 ?side3 ?side4 A15.out).mono ?_); (case side1 => repeat (first | exact (Kd.R_reads' HO159.out).2.2 | (with_reducible refine Kd.C_alloc ?_ _) | (with_reducible refine Kd.C_drewN ?_ _) | (with_reducible refine Kd.C_drew ?_))); (case side2 => exact (Kd.R_reads' HO159.out).2.1); (case side3 => repeat (first | exact (Kd.R_reads' HO166.out).2.2 | (with_reducible refine Kd.C_alloc ?_ _) | (with_reducible refine Kd.C_drewN ?_ _) | (with_reducible refine Kd.C_drew ?_))); (case side4 => exact (Kd.R_reads' HO166.out).2.1); rintro e w' ⟨rfl, ⟨nd, rfl⟩⟩; refine ⟨_, rfl, ?_⟩) | (go_at_call 17; (with_reducible refine (chain_Seen.calls a0 _ _ t154 t168 _ ?side1 ?side2 A17.out).mono ?_); (case side1 => repeat (first | exact (Kd.R_reads' HO156.out).2.2 | (with_reducible refine Kd.C_alloc ?_ _) | (with_reducible refine Kd.C_drewN ?_ _) | (with_reducible refine Kd.C_drew ?_))); (case side2 => exact (Kd.R_reads' HO156.out).2.1); rintro e w' ⟨rfl, ⟨nd, rfl⟩⟩) | (go_at_call 18; (with_reducible refine (chaperonref10_Seen.calls a0 _ _ l1 t169 _ ?side1 ?side2 A18.out).mono ?_); (case side1 => repeat (first | exact (Kd.C_below HR1.out (by repeat (first | (with_reducible first | exact HB.out | apply below_alloc | apply pw_below_drewN | apply below_drew1) | exact HB.out))) | (with_reducible refine Kd.C_alloc ?_ _) | (with_reducible refine Kd.C_drewN ?_ _) | (with_reducible refine Kd.C_drew ?_))); (case side2 => exact HC1.out); rintro e w' ⟨rfl, ⟨nd, rfl⟩⟩) | ((with_reducible refine gate_callee (f := 19) rfl ?_); refine goesL_ (some 62) rfl rfl Try.func19 (by kernel_rfl) rfl #[.slice Ao30 t157.length co30] rfl (by (try simp only [List.map_toArray, List.map_cons, List.map_nil]); first | done | rfl | (simp only [List.length_drop, List.length_take]; rfl)) ?_; (with_reducible refine (chaperonkit_OverTexts.calls kj3 (fun k_ => some k_ = (.slice Ao30 t157.length co30 : Value).ownBlock) (.slice Ao30 t157.length co30) t157 t170 w _ ?side1 ?side2 A21.out).mono ?_); (case side1 => repeat (first | (with_reducible first | exact HB.out | apply below_alloc | apply pw_below_drewN | apply below_drew1) | exact HB.out)); (case side2 => exact Kd.R_tight rfl HO159.out); rintro e w32 ⟨rfl, hy0, hb, hkp⟩; refine ⟨_, rfl, ?_⟩; have n0_ := Aside0.mk (Kd.R_mono (ok' := fun k_ => True) (Kd.R_keptB ((Kd.R_apart' HO156.out (Kd.R_typed HO159.out) (by decide))) hkp (fun k_ hk_ hs_ => (hk_.2) hs_)) (fun k_ hk_ => trivial)); have n1_ := Aside0.mk (Kd.R_reok rfl hy0 (fun k_ e_ => HO159.out.1 k_ e_)); have n2_ := Aside0.mk (Kd.R_mono (ok' := fun k_ => some k_ ≠ (.slice Ao30 t157.length co30 : Value).ownBlock) (Kd.R_keptB (HO166.out) hkp (fun k_ hk_ hs_ => (hk_.2) hs_)) (fun k_ hk_ => hk_.1.2)); have n3_ := Aside0.mk (hb); clear HO156; clear HO159; clear HO166; clear HB; have HO156 := n0_; have HO159 := n1_; have HO166 := n2_; have HB := n3_; clear n0_ n1_ n2_ n3_; (try clear hb); (try clear hkp); (try clear hy0)) | (go_at_call 20; (with_reducible refine (chaperonkit_SameLayers.calls kj3 _ _ t154 _ _ l1 true _ ?side1 ?side2 ?side3 ?side4 A23.out).mono ?_); (case side1 => repeat (first | exact (Kd.R_reads' HO156.out).2.2 | (with_reducible refine Kd.C_alloc ?_ _) | (with_reducible refine Kd.C_drewN ?_ _) | (with_reducible refine Kd.C_drew ?_))); (case side2 => exact (Kd.R_reads' HO156.out).2.1); (case side3 => repeat (first | exact (Kd.C_below HR1.out HB.out) | (with_reducible refine Kd.C_alloc ?_ _) | (with_reducible refine Kd.C_drewN ?_ _) | (with_reducible refine Kd.C_drew ?_))); (case side4 => exact HC1.out); rintro e w' ⟨rfl, ⟨nd, rfl⟩⟩) | (go_at_call 10; (with_reducible refine (chaperonlaw10_awake.calls kj3  t172 _ A25.out).mono ?_); rintro e w33 ⟨rfl, hb⟩; have n0_ := Aside0.mk (Kd.R_below (by (with_reducible repeat (first | apply Kd.R_alloc | apply Kd.R_drewN | apply Kd.R_drew)); exact HO156.out) hb); have n1_ := Aside0.mk (Kd.R_below (by (with_reducible repeat (first | apply Kd.R_alloc | apply Kd.R_drewN | apply Kd.R_drew)); exact HO159.out) hb); have n2_ := Aside0.mk (Kd.R_below (by (with_reducible repeat (first | apply Kd.R_alloc | apply Kd.R_drewN | apply Kd.R_drew)); exact HO166.out) hb); have n3_ := Aside0.mk (below_step (by repeat (first | (with_reducible first | exact HB.out | apply below_alloc | apply pw_below_drewN | apply below_drew1) | exact HB.out)) hb); clear HO156; clear HO159; clear HO166; clear HB; have HO156 := n0_; have HO159 := n1_; have HO166 := n2_; have HB := n3_; clear n0_ n1_ n2_ n3_; (try clear hb); (try clear hb2); (try clear hk); (try clear hi)))
                  go_ret
                  exact ⟨by first | rfl | (simp [errW_none, errW_some] <;> rfl) | (simp [*, errW_none, errW_some] <;> rfl), by repeat (first | (with_reducible first | exact HB.out | apply below_alloc | apply pw_below_drewN | apply below_drew1) | exact HB.out)⟩
                · replace c24 := Bool.eq_false_iff.mpr c24
                  subst c24
                  have H1 : (none) = some r := by rw [if_neg (show ¬ (false = true) by decide)] at H; exact H
                  clear H
                  have H := H1
                  clear H1
                  exact absurd H (by simp)
              · rw [if_neg c22] at H
                exact absurd H (by simp)
            · rw [if_neg c20] at H
              have c20b0 : (t160 == t162) = false := beq_eq_false_iff_ne.mpr c20
              have c20b1 : (t160 != t162) = true := bne_iff_ne.mpr c20
              replace H := Option.bind_eq_some_iff.mp H
              obtain ⟨t173, A340, H⟩ := H
              replace H : (none) = some r := H
              have A34 := Aside0.mk A340
              clear A340
              exact absurd H (by simp)
          · rw [if_neg c19] at H
            have c19b0 : (t168.toList == t169.toList) = false := beq_eq_false_iff_ne.mpr c19
            have c19b1 : (t168.toList != t169.toList) = true := bne_iff_ne.mpr c19
            replace H := Option.bind_eq_some_iff.mp H
            obtain ⟨t174, A350, H⟩ := H
            replace H : (none) = some r := H
            have A35 := Aside0.mk A350
            clear A350
            exact absurd H (by simp)
        · replace c16 := Bool.eq_false_iff.mpr c16
          subst c16
          have H1 : ((chaperonkit_OverTexts.f kj3 t157).bind fun t175 => (none)) = some r := by rw [if_neg (show ¬ (false = true) by decide)] at H; exact H
          clear H
          have H := H1
          clear H1
          replace H := Option.bind_eq_some_iff.mp H
          obtain ⟨t175, A360, H⟩ := H
          replace H : (none) = some r := H
          have A36 := Aside0.mk A360
          clear A360
          exact absurd H (by simp)

end Go.Proofs.Ytokfalcmkmelpaa.PAll
