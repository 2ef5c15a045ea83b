/- Parts of the proof of one statement, packed: what the program's functions compute. No conditions. -/
import Derived.Test.YtgcfmllgomikoaaDoorKTO1
import Derived.Test.YtgcfmllgomikoaaDoorKTO2
import Derived.Test.YtgcfmllgomikoaaDoorKTO3
import Derived.Below
set_option linter.unusedSimpArgs false
set_option linter.unusedVariables false
set_option maxRecDepth 100000
set_option maxHeartbeats 8000000
section
namespace Go.Proofs.YtgcfmllgomikoaaDoor.PAll
open Go.RowKit Go.Proofs.YtgcfmllgomikoaaDoorW.PrintWords Go.Proofs.YtgcfmllgomikoaaDoorW.PrintLast Go.Proofs.YtgcfmllgomikoaaDoorW.za6
attribute [local go_sem] zbf zbg zbv zbu za8 za7 zbh zbe
attribute [local go_sem high] eqA51
mutual
def chaperonlaw05_TableOnce.j0 : Nat → List (S45) → Int → Bool → Bool → Option (Bool)
 | 0, _, _, _, _ => none
 | k + 1, x0, x1, x5, x30 => if x30 = true then (some x5) else ((zaY.f x1 (x0.length : Int)).bind fun t160 => (if 0 ≤ t160 then (if t160 < (x0.length : Int) then ((zaj.f k x0 ((zaf x0 t160).f0)).bind fun t162 => (chaperonlaw05_TableOnce.l0 k x0 x5 ((zaf x0 t160).f0) t162 0)) else (none)) else (none)))
def chaperonlaw05_TableOnce.l0 : Nat → List (S45) → Bool → ByteArray → List (S42) → Int → Option (Bool)
 | 0, _, _, _, _, _ => none
 | k + 1, x0, x5, x6, x7, x8 => if x8 < (x7.length : Int) then (chaperonlaw05_TableOnce.l1 k x0 x5 x6 x7 x8 0) else (if x5 = true then ((zaU.f x0 x6).bind fun t165 => ((zaw.f x0 x6).bind fun t168 => (some ((x7.length : Int) == (wrap64 ((t165.length : Int) + (t168.length : Int))))))) else (none))
def chaperonlaw05_TableOnce.l1 : Nat → List (S45) → Bool → ByteArray → List (S42) → Int → Int → Option (Bool)
 | 0, _, _, _, _, _, _ => none
 | k + 1, x0, x5, x6, x7, x8, x9 => if x9 < x8 then (if 0 ≤ x9 then (if x9 < (x7.length : Int) then (if 0 ≤ x8 then (if x8 < (x7.length : Int) then (if ((zaN x7 x9).f0).toList = ((zaN x7 x8).f0).toList then (none) else (chaperonlaw05_TableOnce.l1 k x0 x5 x6 x7 x8 (wrap64 (x9 + 1)))) else (none)) else (none)) else (none)) else (none)) else (if 0 ≤ x8 then (if x8 < (x7.length : Int) then ((zaQ.f k x0 x6 ((zaN x7 x8).f0)).bind fun bt174 => ((za3.f x0 x6 ((zaN x7 x8).f0)).bind fun bt177 => ((zaX.f x0 x6 ((zaN x7 x8).f0)).bind fun bt180 => (if bt174.2 = true then (if bt174.1 = ((zaN x7 x8).f1) then (if (bt177.2 == bt180.2.2.2.2) = true then (none) else (if (bt177.2 != (bt174.1 == (-1))) = true then (none) else (if bt180.2.2.2.2 = true then (if (bt180.2.1.length : Int) = bt174.1 then (if bt180.2.2.2.1.toList = ([] : List UInt8) then (none) else (chaperonlaw05_TableOnce.l0 k x0 x5 x6 x7 (wrap64 (x8 + 1)))) else (none)) else (chaperonlaw05_TableOnce.l0 k x0 x5 x6 x7 (wrap64 (x8 + 1)))))) else (none)) else (none))))) else (none)) else (none))
end
def chaperonlaw05_TableOnce.f (k : Nat) (l0 : List (S45)) (a1 : Int) : Option (Bool) := (zaO.f).bind fun t156 => ((zac.f k l0).bind fun t157 => (if t157 = true then (chaperonlaw05_TableOnce.j0 k l0 a1 t156 true) else (if (l0.length : Int) = 0 then (chaperonlaw05_TableOnce.j0 k l0 a1 t156 true) else ((zal.f k l0).bind fun bt158 => (chaperonlaw05_TableOnce.j0 k l0 a1 t156 (!(bt158.1 == 0) || (!(bt158.2 == 0))))))))
theorem chaperonlaw05_TableOnce.zbF : ∀ k, (∀ y0 y1 y2 y3, LeO (chaperonlaw05_TableOnce.j0 k y0 y1 y2 y3) (chaperonlaw05_TableOnce.j0 (k + 1) y0 y1 y2 y3)) ∧ (∀ y0 y1 y2 y3 y4, LeO (chaperonlaw05_TableOnce.l0 k y0 y1 y2 y3 y4) (chaperonlaw05_TableOnce.l0 (k + 1) y0 y1 y2 y3 y4)) ∧ (∀ y0 y1 y2 y3 y4 y5, LeO (chaperonlaw05_TableOnce.l1 k y0 y1 y2 y3 y4 y5) (chaperonlaw05_TableOnce.l1 (k + 1) y0 y1 y2 y3 y4 y5))
 | 0 => ⟨fun _ _ _ _ r h => by simp [chaperonlaw05_TableOnce.j0] at h, fun _ _ _ _ _ r h => by simp [chaperonlaw05_TableOnce.l0] at h, fun _ _ _ _ _ _ r h => by simp [chaperonlaw05_TableOnce.l1] at h⟩
 | k + 1 => by
  obtain ⟨ih0, ih1, ih2⟩ := chaperonlaw05_TableOnce.zbF k
  refine ⟨?_, ?_, ?_⟩
  ·
   intro y0 y1 y2 y3
   unfold chaperonlaw05_TableOnce.j0
   repeat' first
   | (with_reducible exact ih0 _ _ _ _)
   | (with_reducible exact ih1 _ _ _ _ _)
   | (with_reducible exact ih2 _ _ _ _ _ _)
   | (with_reducible exact zac.mono _ _)
   | (with_reducible exact zaQ.mono _ _ _ _)
   | (with_reducible exact zal.mono _ _)
   | (with_reducible exact zaj.mono _ _ _)
   | (with_reducible exact LeO.refl _)
   | (with_reducible exact LeO.none _)
   | (with_reducible refine LeO.ite ?_ ?_)
   | (with_reducible refine LeO.bind ?_ (fun _ => ?_))
   | exact ih0 _ _ _ _
   | exact ih1 _ _ _ _ _
   | exact ih2 _ _ _ _ _ _
   | exact zac.mono _ _
   | exact zaQ.mono _ _ _ _
   | exact zal.mono _ _
   | exact zaj.mono _ _ _
   | exact LeO.none _
   | refine LeO.ite ?_ ?_
   | refine LeO.bind ?_ (fun _ => ?_)
  ·
   intro y0 y1 y2 y3 y4
   unfold chaperonlaw05_TableOnce.l0
   repeat' first
   | (with_reducible exact ih0 _ _ _ _)
   | (with_reducible exact ih1 _ _ _ _ _)
   | (with_reducible exact ih2 _ _ _ _ _ _)
   | (with_reducible exact zac.mono _ _)
   | (with_reducible exact zaQ.mono _ _ _ _)
   | (with_reducible exact zal.mono _ _)
   | (with_reducible exact zaj.mono _ _ _)
   | (with_reducible exact LeO.refl _)
   | (with_reducible exact LeO.none _)
   | (with_reducible refine LeO.ite ?_ ?_)
   | (with_reducible refine LeO.bind ?_ (fun _ => ?_))
   | exact ih0 _ _ _ _
   | exact ih1 _ _ _ _ _
   | exact ih2 _ _ _ _ _ _
   | exact zac.mono _ _
   | exact zaQ.mono _ _ _ _
   | exact zal.mono _ _
   | exact zaj.mono _ _ _
   | exact LeO.none _
   | refine LeO.ite ?_ ?_
   | refine LeO.bind ?_ (fun _ => ?_)
  ·
   intro y0 y1 y2 y3 y4 y5
   unfold chaperonlaw05_TableOnce.l1
   repeat' first
   | (with_reducible exact ih0 _ _ _ _)
   | (with_reducible exact ih1 _ _ _ _ _)
   | (with_reducible exact ih2 _ _ _ _ _ _)
   | (with_reducible exact zac.mono _ _)
   | (with_reducible exact zaQ.mono _ _ _ _)
   | (with_reducible exact zal.mono _ _)
   | (with_reducible exact zaj.mono _ _ _)
   | (with_reducible exact LeO.refl _)
   | (with_reducible exact LeO.none _)
   | (with_reducible refine LeO.ite ?_ ?_)
   | (with_reducible refine LeO.bind ?_ (fun _ => ?_))
   | exact ih0 _ _ _ _
   | exact ih1 _ _ _ _ _
   | exact ih2 _ _ _ _ _ _
   | exact zac.mono _ _
   | exact zaQ.mono _ _ _ _
   | exact zal.mono _ _
   | exact zaj.mono _ _ _
   | exact LeO.none _
   | refine LeO.ite ?_ ?_
   | refine LeO.bind ?_ (fun _ => ?_)
theorem chaperonlaw05_TableOnce.mono : ∀ a0 a1 k, LeO (chaperonlaw05_TableOnce.f k a0 a1) (chaperonlaw05_TableOnce.f (k + 1) a0 a1) := by
 intro a0 a1 k
 obtain ⟨ih0, ih1, ih2⟩ := chaperonlaw05_TableOnce.zbF k
 unfold chaperonlaw05_TableOnce.f
 repeat' first
   | (with_reducible exact ih0 _ _ _ _)
   | (with_reducible exact ih1 _ _ _ _ _)
   | (with_reducible exact ih2 _ _ _ _ _ _)
   | (with_reducible exact zac.mono _ _)
   | (with_reducible exact zaQ.mono _ _ _ _)
   | (with_reducible exact zal.mono _ _)
   | (with_reducible exact zaj.mono _ _ _)
   | (with_reducible exact LeO.refl _)
   | (with_reducible exact LeO.none _)
   | (with_reducible refine LeO.ite ?_ ?_)
   | (with_reducible refine LeO.bind ?_ (fun _ => ?_))
   | exact ih0 _ _ _ _
   | exact ih1 _ _ _ _ _
   | exact ih2 _ _ _ _ _ _
   | exact zac.mono _ _
   | exact zaQ.mono _ _ _ _
   | exact zal.mono _ _
   | exact zaj.mono _ _ _
   | exact LeO.none _
   | refine LeO.ite ?_ ?_
   | refine LeO.bind ?_ (fun _ => ?_)
theorem chaperonlaw05_TableOnce.calls (k : Nat) (A0 : Option Addr) (c0 : Nat) (l0 : List (S45)) (a1 : Int) (r : Bool) (w : World) (hr0 : Kd.C k45 w A0 l0.length l0) (hc0 : l0.length ≤ c0) (h : chaperonlaw05_TableOnce.f k l0 a1 = some r) (hG : Go.Proofs.YtgcfmllgomikoaaDoorTab.GW w := by exact Go.Proofs.YtgcfmllgomikoaaDoorTab.GW.below hG (by repeat (first | (with_reducible first | exact HB.out | apply zad | apply zab | apply zae) | exact HB.out | exact Below.refl _ _))) :
  Calls Tryd.prog 4 #[.slice A0 l0.length c0, .int .i64 a1] w fun e w' => e = .returned (.bool r) ∧ Below w.heap.size w w' := by
 have hu51 := Tryd.underlying51
 have hu26 := Tryd.underlying26
 have HR0 := zaa.mk hr0
 have HC0 := zaa.mk hc0
 clear hr0 hc0
 have HB := zaa.mk (Below.refl w.heap.size w)
 have H : ((zaO.f).bind fun t156 => ((zac.f k l0).bind fun t157 => (if t157 = true then (chaperonlaw05_TableOnce.j0 k l0 a1 t156 true) else (if (l0.length : Int) = 0 then (chaperonlaw05_TableOnce.j0 k l0 a1 t156 true) else ((zal.f k l0).bind fun bt158 => (chaperonlaw05_TableOnce.j0 k l0 a1 t156 (!(bt158.1 == 0) || (!(bt158.2 == 0))))))))) = some r := h
 clear h
 replace H := Option.bind_eq_some_iff.mp H
 obtain ⟨t156, A30, H⟩ := H
 replace H : ((zac.f k l0).bind fun t157 => (if t157 = true then (chaperonlaw05_TableOnce.j0 k l0 a1 t156 true) else (if (l0.length : Int) = 0 then (chaperonlaw05_TableOnce.j0 k l0 a1 t156 true) else ((zal.f k l0).bind fun bt158 => (chaperonlaw05_TableOnce.j0 k l0 a1 t156 (!(bt158.1 == 0) || (!(bt158.2 == 0)))))))) = some r := H
 have A3 := zaa.mk A30
 clear A30
 have HC4 := zaa.mk H
 clear H
 go_enter Tryd.func4, Tryd.ntmps4
 go_upto_region 2 with (first | (go_at_call 3; (with_reducible refine (zaO.calls  t156 _ A3.out).mono ?_); rintro e w5 ⟨rfl, hb⟩; have n0_ := zaa.mk (zas (by repeat (first | (with_reducible first | exact HB.out | apply zad | apply zab | apply zae) | exact HB.out)) hb); clear HB; have HB := n0_; clear n0_; (try clear hb); (try clear hb2); (try clear hk); (try clear hi)))
 repeat (go_quiet (first | (go_at_call 3; (with_reducible refine (zaO.calls  t156 _ A3.out).mono ?_); rintro e w5 ⟨rfl, hb⟩; have n0_ := zaa.mk (zas (by repeat (first | (with_reducible first | exact HB.out | apply zad | apply zab | apply zae) | exact HB.out)) hb); clear HB; have HB := n0_; clear n0_; (try clear hb); (try clear hb2); (try clear hk); (try clear hi))); go_upto_region 2 with (first | (go_at_call 3; (with_reducible refine (zaO.calls  t156 _ A3.out).mono ?_); rintro e w5 ⟨rfl, hb⟩; have n0_ := zaa.mk (zas (by repeat (first | (with_reducible first | exact HB.out | apply zad | apply zab | apply zae) | exact HB.out)) hb); clear HB; have HB := n0_; clear n0_; (try clear hb); (try clear hb2); (try clear hk); (try clear hi))))
 (try simp only [Act.put, List.setIfInBounds_toArray, List.set_cons_zero, List.set_cons_succ])
 go_cut [30] (fun v30 wc => ∃ (kq : Nat) (x30_3 : Bool), v30 = .bool x30_3 ∧ zaa (chaperonlaw05_TableOnce.j0 kq l0 a1 t156 x30_3 = some r) ∧ zaa (kq ≤ k) ∧ zaa (Below w.heap.size w wc))
 case first =>
  have H := HC4.out
  clear HC4
  replace H := Option.bind_eq_some_iff.mp H
  obtain ⟨t157, A60, H⟩ := H
  replace H : (if t157 = true then (chaperonlaw05_TableOnce.j0 k l0 a1 t156 true) else (if (l0.length : Int) = 0 then (chaperonlaw05_TableOnce.j0 k l0 a1 t156 true) else ((zal.f k l0).bind fun bt158 => (chaperonlaw05_TableOnce.j0 k l0 a1 t156 (!(bt158.1 == 0) || (!(bt158.2 == 0))))))) = some r := H
  have A6 := zaa.mk A60
  clear A60
  by_cases c7 : t157 = true
  ·
   subst c7
   have H1 : (chaperonlaw05_TableOnce.j0 k l0 a1 t156 true) = some r := by rw [if_pos rfl] at H; exact H
   clear H
   have H := H1
   clear H1
   have H' := zaa.mk H
   clear H
   go_wp2_with (first | (go_at_call 17; (with_reducible refine (zac.calls k _ _ l0 true _ ?side1 ?side2 A6.out).mono ?_); (case side1 => repeat (first | exact (Kd.zar HR0.out HB.out) | (with_reducible refine Kd.zaP ?_ _) | (with_reducible refine Kd.zaR ?_ _) | (with_reducible refine Kd.za1 ?_))); (case side2 => exact HC0.out); rintro e w8 ⟨rfl, hb⟩; have n0_ := zaa.mk (zas (by repeat (first | (with_reducible first | exact HB.out | apply zad | apply zab | apply zae) | exact HB.out)) hb); clear HB; have HB := n0_; clear n0_; (try clear hb); (try clear hb2); (try clear hk); (try clear hi)))
   have Tk1_ := zaa.mk True.intro
   have Tk2_ := zaa.mk True.intro
   repeat (go_quiet (first | (clear Tk1_; go_at_call 17; (with_reducible refine (zac.calls k _ _ l0 true _ ?side1 ?side2 A6.out).mono ?_); (case side1 => repeat (first | exact (Kd.zar HR0.out HB.out) | (with_reducible refine Kd.zaP ?_ _) | (with_reducible refine Kd.zaR ?_ _) | (with_reducible refine Kd.za1 ?_))); (case side2 => exact HC0.out); rintro e w8 ⟨rfl, hb⟩; have n0_ := zaa.mk (zas (by repeat (first | (with_reducible first | exact HB.out | apply zad | apply zab | apply zae) | exact HB.out)) hb); clear HB; have HB := n0_; clear n0_; (try clear hb); (try clear hb2); (try clear hk); (try clear hi))); try go_wp2_with (first | (clear Tk2_; go_at_call 17; (with_reducible refine (zac.calls k _ _ l0 true _ ?side1 ?side2 A6.out).mono ?_); (case side1 => repeat (first | exact (Kd.zar HR0.out HB.out) | (with_reducible refine Kd.zaP ?_ _) | (with_reducible refine Kd.zaR ?_ _) | (with_reducible refine Kd.za1 ?_))); (case side2 => exact HC0.out); rintro e w8 ⟨rfl, hb⟩; have n0_ := zaa.mk (zas (by repeat (first | (with_reducible first | exact HB.out | apply zad | apply zab | apply zae) | exact HB.out)) hb); clear HB; have HB := n0_; clear n0_; (try clear hb); (try clear hb2); (try clear hk); (try clear hi))))
   go_meet
   case rel => exact ⟨_, (true), (by first | rfl | (simp; done) | (simp [*]; done)), H', ⟨by first | omega | exact Nat.le_refl _⟩, ⟨by repeat (first | (with_reducible first | exact HB.out | apply zad | apply zab | apply zae) | exact HB.out)⟩⟩
  ·
   replace c7 := Bool.eq_false_iff.mpr c7
   subst c7
   have H1 : (if (l0.length : Int) = 0 then (chaperonlaw05_TableOnce.j0 k l0 a1 t156 true) else ((zal.f k l0).bind fun bt158 => (chaperonlaw05_TableOnce.j0 k l0 a1 t156 (!(bt158.1 == 0) || (!(bt158.2 == 0)))))) = some r := by rw [if_neg (show ¬ (false = true) by decide)] at H; exact H
   clear H
   have H := H1
   clear H1
   by_cases c9 : (l0.length : Int) = 0
   ·
    rw [if_pos c9] at H
    have c9b0 : ((l0.length : Int) == 0) = true := beq_iff_eq.mpr c9
    have c9b1 : ((l0.length : Int) != 0) = false := bne_eq_false_iff_eq.mpr c9
    clear c9
    (first | rw [c9b0] | (simp only [i64_w, i32_w]; rw [c9b0]) | skip)
    have H' := zaa.mk H
    clear H
    go_wp2_with (first | (go_at_call 17; (with_reducible refine (zac.calls k _ _ l0 false _ ?side1 ?side2 A6.out).mono ?_); (case side1 => repeat (first | exact (Kd.zar HR0.out HB.out) | (with_reducible refine Kd.zaP ?_ _) | (with_reducible refine Kd.zaR ?_ _) | (with_reducible refine Kd.za1 ?_))); (case side2 => exact HC0.out); rintro e w10 ⟨rfl, hb⟩; have n0_ := zaa.mk (zas (by repeat (first | (with_reducible first | exact HB.out | apply zad | apply zab | apply zae) | exact HB.out)) hb); clear HB; have HB := n0_; clear n0_; (try clear hb); (try clear hb2); (try clear hk); (try clear hi)))
    have Tk1_ := zaa.mk True.intro
    have Tk2_ := zaa.mk True.intro
    repeat (go_quiet (first | (clear Tk1_; go_at_call 17; (with_reducible refine (zac.calls k _ _ l0 false _ ?side1 ?side2 A6.out).mono ?_); (case side1 => repeat (first | exact (Kd.zar HR0.out HB.out) | (with_reducible refine Kd.zaP ?_ _) | (with_reducible refine Kd.zaR ?_ _) | (with_reducible refine Kd.za1 ?_))); (case side2 => exact HC0.out); rintro e w10 ⟨rfl, hb⟩; have n0_ := zaa.mk (zas (by repeat (first | (with_reducible first | exact HB.out | apply zad | apply zab | apply zae) | exact HB.out)) hb); clear HB; have HB := n0_; clear n0_; (try clear hb); (try clear hb2); (try clear hk); (try clear hi))); try go_wp2_with (first | (clear Tk2_; go_at_call 17; (with_reducible refine (zac.calls k _ _ l0 false _ ?side1 ?side2 A6.out).mono ?_); (case side1 => repeat (first | exact (Kd.zar HR0.out HB.out) | (with_reducible refine Kd.zaP ?_ _) | (with_reducible refine Kd.zaR ?_ _) | (with_reducible refine Kd.za1 ?_))); (case side2 => exact HC0.out); rintro e w10 ⟨rfl, hb⟩; have n0_ := zaa.mk (zas (by repeat (first | (with_reducible first | exact HB.out | apply zad | apply zab | apply zae) | exact HB.out)) hb); clear HB; have HB := n0_; clear n0_; (try clear hb); (try clear hb2); (try clear hk); (try clear hi))))
    go_meet
    case rel => exact ⟨_, (true), (by first | rfl | (simp; done) | (simp [*]; done)), H', ⟨by first | omega | exact Nat.le_refl _⟩, ⟨by repeat (first | (with_reducible first | exact HB.out | apply zad | apply zab | apply zae) | exact HB.out)⟩⟩
   ·
    rw [if_neg c9] at H
    have c9b0 : ((l0.length : Int) == 0) = false := beq_eq_false_iff_ne.mpr c9
    have c9b1 : ((l0.length : Int) != 0) = true := bne_iff_ne.mpr c9
    have c9b2 : ¬ (l0 = []) := fun h_ => c9 (by rw [h_]; rfl)
    (first | rw [c9b0] | (simp only [i64_w, i32_w]; rw [c9b0]) | skip)
    replace H := Option.bind_eq_some_iff.mp H
    obtain ⟨⟨t158, t159⟩, A110, H⟩ := H
    replace H : (chaperonlaw05_TableOnce.j0 k l0 a1 t156 (!(t158 == 0) || (!(t159 == 0)))) = some r := H
    have A11 := zaa.mk A110
    clear A110
    have H' := zaa.mk H
    clear H
    go_wp2_with (first | (go_at_call 17; (with_reducible refine (zac.calls k _ _ l0 false _ ?side1 ?side2 A6.out).mono ?_); (case side1 => repeat (first | exact (Kd.zar HR0.out HB.out) | (with_reducible refine Kd.zaP ?_ _) | (with_reducible refine Kd.zaR ?_ _) | (with_reducible refine Kd.za1 ?_))); (case side2 => exact HC0.out); rintro e w12 ⟨rfl, hb⟩; have n0_ := zaa.mk (zas (by repeat (first | (with_reducible first | exact HB.out | apply zad | apply zab | apply zae) | exact HB.out)) hb); clear HB; have HB := n0_; clear n0_; (try clear hb); (try clear hb2); (try clear hk); (try clear hi)) | (go_at_call 18; (with_reducible refine (zal.calls k _ _ l0 t158 t159 _ ?side1 ?side2 A11.out).mono ?_); (case side1 => repeat (first | exact (Kd.zar HR0.out HB.out) | (with_reducible refine Kd.zaP ?_ _) | (with_reducible refine Kd.zaR ?_ _) | (with_reducible refine Kd.za1 ?_))); (case side2 => exact HC0.out); rintro e w13 ⟨rfl, hb⟩; have n0_ := zaa.mk (zas (by repeat (first | (with_reducible first | exact HB.out | apply zad | apply zab | apply zae) | exact HB.out)) hb); clear HB; have HB := n0_; clear n0_; (try clear hb); (try clear hb2); (try clear hk); (try clear hi)))
    have Tk1_ := zaa.mk True.intro
    have Tk2_ := zaa.mk True.intro
    have Tk3_ := zaa.mk True.intro
    have Tk4_ := zaa.mk True.intro
    repeat (go_quiet (first | (clear Tk1_; go_at_call 17; (with_reducible refine (zac.calls k _ _ l0 false _ ?side1 ?side2 A6.out).mono ?_); (case side1 => repeat (first | exact (Kd.zar HR0.out HB.out) | (with_reducible refine Kd.zaP ?_ _) | (with_reducible refine Kd.zaR ?_ _) | (with_reducible refine Kd.za1 ?_))); (case side2 => exact HC0.out); rintro e w12 ⟨rfl, hb⟩; have n0_ := zaa.mk (zas (by repeat (first | (with_reducible first | exact HB.out | apply zad | apply zab | apply zae) | exact HB.out)) hb); clear HB; have HB := n0_; clear n0_; (try clear hb); (try clear hb2); (try clear hk); (try clear hi)) | (clear Tk2_; go_at_call 18; (with_reducible refine (zal.calls k _ _ l0 t158 t159 _ ?side1 ?side2 A11.out).mono ?_); (case side1 => repeat (first | exact (Kd.zar HR0.out HB.out) | (with_reducible refine Kd.zaP ?_ _) | (with_reducible refine Kd.zaR ?_ _) | (with_reducible refine Kd.za1 ?_))); (case side2 => exact HC0.out); rintro e w13 ⟨rfl, hb⟩; have n0_ := zaa.mk (zas (by repeat (first | (with_reducible first | exact HB.out | apply zad | apply zab | apply zae) | exact HB.out)) hb); clear HB; have HB := n0_; clear n0_; (try clear hb); (try clear hb2); (try clear hk); (try clear hi))); try go_wp2_with (first | (clear Tk3_; go_at_call 17; (with_reducible refine (zac.calls k _ _ l0 false _ ?side1 ?side2 A6.out).mono ?_); (case side1 => repeat (first | exact (Kd.zar HR0.out HB.out) | (with_reducible refine Kd.zaP ?_ _) | (with_reducible refine Kd.zaR ?_ _) | (with_reducible refine Kd.za1 ?_))); (case side2 => exact HC0.out); rintro e w12 ⟨rfl, hb⟩; have n0_ := zaa.mk (zas (by repeat (first | (with_reducible first | exact HB.out | apply zad | apply zab | apply zae) | exact HB.out)) hb); clear HB; have HB := n0_; clear n0_; (try clear hb); (try clear hb2); (try clear hk); (try clear hi)) | (clear Tk4_; go_at_call 18; (with_reducible refine (zal.calls k _ _ l0 t158 t159 _ ?side1 ?side2 A11.out).mono ?_); (case side1 => repeat (first | exact (Kd.zar HR0.out HB.out) | (with_reducible refine Kd.zaP ?_ _) | (with_reducible refine Kd.zaR ?_ _) | (with_reducible refine Kd.za1 ?_))); (case side2 => exact HC0.out); rintro e w13 ⟨rfl, hb⟩; have n0_ := zaa.mk (zas (by repeat (first | (with_reducible first | exact HB.out | apply zad | apply zab | apply zae) | exact HB.out)) hb); clear HB; have HB := n0_; clear n0_; (try clear hb); (try clear hb2); (try clear hk); (try clear hi))))
    go_meet
    case rel => exact ⟨_, ((!(t158 == 0) || (!(t159 == 0)))), (by first | rfl | (simp; done) | (simp [*]; done)), H', ⟨by first | omega | exact Nat.le_refl _⟩, ⟨by repeat (first | (with_reducible first | exact HB.out | apply zad | apply zab | apply zae) | exact HB.out)⟩⟩
 case rest =>
  clear HC4
  try clear p2
  try clear c4
  try clear c7
  try clear c9
  try clear c9b0
  try clear c9b1
  try clear c9b2
  obtain ⟨kq, x30_3, rfl, HA, HJ3, HB⟩ := hcut
  cases kq with
  | zero => exact absurd HA.out (by simp [chaperonlaw05_TableOnce.j0])
  | succ kj3 =>
   have H := HA.out
   clear HA
   simp only [chaperonlaw05_TableOnce.j0] at H
   by_cases c14 : x30_3 = true
   ·
    subst c14
    have H1 : (some t156) = some r := by rw [if_pos rfl] at H; exact H
    clear H
    have H := H1
    clear H1
    obtain rfl := Option.some.inj H
    go_wp2
    repeat (go_quiet (fail); try go_wp2)
    go_ret
    exact ⟨by first | rfl | (simp [za5, za4] <;> rfl) | (simp [*, za5, za4] <;> rfl), by repeat (first | (with_reducible first | exact HB.out | apply zad | apply zab | apply zae) | exact HB.out)⟩
   ·
    replace c14 := Bool.eq_false_iff.mpr c14
    subst c14
    have H1 : ((zaY.f a1 (l0.length : Int)).bind fun t160 => (if 0 ≤ t160 then (if t160 < (l0.length : Int) then ((zaj.f kj3 l0 ((zaf l0 t160).f0)).bind fun t162 => (chaperonlaw05_TableOnce.l0 kj3 l0 t156 ((zaf l0 t160).f0) t162 0)) else (none)) else (none))) = some r := by rw [if_neg (show ¬ (false = true) by decide)] at H; exact H
    clear H
    have H := H1
    clear H1
    replace H := Option.bind_eq_some_iff.mp H
    obtain ⟨t160, A150, H⟩ := H
    replace H : (if 0 ≤ t160 then (if t160 < (l0.length : Int) then ((zaj.f kj3 l0 ((zaf l0 t160).f0)).bind fun t162 => (chaperonlaw05_TableOnce.l0 kj3 l0 t156 ((zaf l0 t160).f0) t162 0)) else (none)) else (none)) = some r := H
    have A15 := zaa.mk A150
    clear A150
    by_cases c16 : 0 ≤ t160
    ·
     rw [if_pos c16] at H
     have c16b0 : decide (0 ≤ t160) = true := decide_eq_true c16
     clear c16
     by_cases c17 : t160 < (l0.length : Int)
     ·
      rw [if_pos c17] at H
      have c17b0 : decide (t160 < (l0.length : Int)) = true := decide_eq_true c17
      clear c17
      replace H := Option.bind_eq_some_iff.mp H
      obtain ⟨t162, A180, H⟩ := H
      replace H : (chaperonlaw05_TableOnce.l0 kj3 l0 t156 ((zaf l0 t160).f0) t162 0) = some r := H
      have A18 := zaa.mk A180
      clear A180
      have H' := zaa.mk H
      clear H
      go_wp2_with (first | (go_at_call 19; (with_reducible refine (zaY.calls a1 (l0.length : Int) t160 _ A15.out).mono ?_); rintro e w' ⟨rfl, ⟨nd, rfl⟩⟩; (try first | exact ⟨rfl, _, World.drewN_drewN _ _ _⟩ | exact ⟨rfl, _, Eq.trans (World.drewN_drewN _ _ _) (congrArg (World.drewN _) (Nat.add_assoc _ _ _))⟩); have p161 : 0 ≤ (t160 : Int) := of_decide_eq_true (by first | (with_reducible assumption) | assumption); have q161 : t160 < (l0.length : Int) := of_decide_eq_true (by first | (with_reducible assumption) | assumption); obtain ⟨ad161, A161_2, c161_2, A161_3, c161_3, e161, hx161_0, hx161_1, hx161_2, hx161_3, hl161_2, hi161_2, hl161_3, hi161_3⟩ := zbL HR0.out t160 p161 q161; cases e161; replace hx161_0 := (HB.out.cell (World.block_lt_of_cell? w _ hx161_0)).trans hx161_0; replace hx161_1 := (HB.out.cell (World.block_lt_of_cell? w _ hx161_1)).trans hx161_1; replace hx161_2 := (HB.out.cell (World.block_lt_of_cell? w _ hx161_2)).trans hx161_2; replace hx161_3 := (HB.out.cell (World.block_lt_of_cell? w _ hx161_3)).trans hx161_3; have HR161_2 := zaa.mk hi161_2; have HC161_2 := zaa.mk hl161_2; clear hi161_2 hl161_2; have HR161_3 := zaa.mk hi161_3; have HC161_3 := zaa.mk hl161_3; clear hi161_3 hl161_3; replace p161 := eq_true p161; replace q161 := eq_true q161) | (go_at_call 14; (with_reducible refine (zaj.calls kj3 _ _ l0 ((zaf l0 t160).f0) t162 _ ?side1 ?side2 A18.out).mono ?_); (case side1 => repeat (first | exact (Kd.zar HR0.out (by repeat (first | (with_reducible first | exact HB.out | apply zad | apply zab | apply zae) | exact HB.out))) | (with_reducible refine Kd.zaP ?_ _) | (with_reducible refine Kd.zaR ?_ _) | (with_reducible refine Kd.za1 ?_))); (case side2 => exact HC0.out); rintro e w19 ⟨v163, rfl, ho0, hb⟩; have n0_ := zaa.mk (Kd.zbm ho0 (zax (by repeat (first | (with_reducible first | exact HB.out | apply zad | apply zab | apply zae) | exact HB.out)))); have n1_ := zaa.mk (zas (by repeat (first | (with_reducible first | exact HB.out | apply zad | apply zab | apply zae) | exact HB.out)) hb); clear HB; have HO164 := n0_; have HB := n1_; clear n0_ n1_; (try clear hb); (try clear hb2); (try clear hk); (try clear hi); (try clear ho0)))
      have Tk1_ := zaa.mk True.intro
      have Tk2_ := zaa.mk True.intro
      have Tk3_ := zaa.mk True.intro
      have Tk4_ := zaa.mk True.intro
      repeat (go_quiet (first | (clear Tk1_; go_at_call 19; (with_reducible refine (zaY.calls a1 (l0.length : Int) t160 _ A15.out).mono ?_); rintro e w' ⟨rfl, ⟨nd, rfl⟩⟩; (try first | exact ⟨rfl, _, World.drewN_drewN _ _ _⟩ | exact ⟨rfl, _, Eq.trans (World.drewN_drewN _ _ _) (congrArg (World.drewN _) (Nat.add_assoc _ _ _))⟩); have p161 : 0 ≤ (t160 : Int) := of_decide_eq_true (by first | (with_reducible assumption) | assumption); have q161 : t160 < (l0.length : Int) := of_decide_eq_true (by first | (with_reducible assumption) | assumption); obtain ⟨ad161, A161_2, c161_2, A161_3, c161_3, e161, hx161_0, hx161_1, hx161_2, hx161_3, hl161_2, hi161_2, hl161_3, hi161_3⟩ := zbL HR0.out t160 p161 q161; cases e161; replace hx161_0 := (HB.out.cell (World.block_lt_of_cell? w _ hx161_0)).trans hx161_0; replace hx161_1 := (HB.out.cell (World.block_lt_of_cell? w _ hx161_1)).trans hx161_1; replace hx161_2 := (HB.out.cell (World.block_lt_of_cell? w _ hx161_2)).trans hx161_2; replace hx161_3 := (HB.out.cell (World.block_lt_of_cell? w _ hx161_3)).trans hx161_3; have HR161_2 := zaa.mk hi161_2; have HC161_2 := zaa.mk hl161_2; clear hi161_2 hl161_2; have HR161_3 := zaa.mk hi161_3; have HC161_3 := zaa.mk hl161_3; clear hi161_3 hl161_3; replace p161 := eq_true p161; replace q161 := eq_true q161) | (clear Tk2_; go_at_call 14; (with_reducible refine (zaj.calls kj3 _ _ l0 ((zaf l0 t160).f0) t162 _ ?side1 ?side2 A18.out).mono ?_); (case side1 => repeat (first | exact (Kd.zar HR0.out (by repeat (first | (with_reducible first | exact HB.out | apply zad | apply zab | apply zae) | exact HB.out))) | (with_reducible refine Kd.zaP ?_ _) | (with_reducible refine Kd.zaR ?_ _) | (with_reducible refine Kd.za1 ?_))); (case side2 => exact HC0.out); rintro e w19 ⟨v163, rfl, ho0, hb⟩; have n0_ := zaa.mk (Kd.zbm ho0 (zax (by repeat (first | (with_reducible first | exact HB.out | apply zad | apply zab | apply zae) | exact HB.out)))); have n1_ := zaa.mk (zas (by repeat (first | (with_reducible first | exact HB.out | apply zad | apply zab | apply zae) | exact HB.out)) hb); clear HB; have HO164 := n0_; have HB := n1_; clear n0_ n1_; (try clear hb); (try clear hb2); (try clear hk); (try clear hi); (try clear ho0))); try go_wp2_with (first | (clear Tk3_; go_at_call 19; (with_reducible refine (zaY.calls a1 (l0.length : Int) t160 _ A15.out).mono ?_); rintro e w' ⟨rfl, ⟨nd, rfl⟩⟩; (try first | exact ⟨rfl, _, World.drewN_drewN _ _ _⟩ | exact ⟨rfl, _, Eq.trans (World.drewN_drewN _ _ _) (congrArg (World.drewN _) (Nat.add_assoc _ _ _))⟩); have p161 : 0 ≤ (t160 : Int) := of_decide_eq_true (by first | (with_reducible assumption) | assumption); have q161 : t160 < (l0.length : Int) := of_decide_eq_true (by first | (with_reducible assumption) | assumption); obtain ⟨ad161, A161_2, c161_2, A161_3, c161_3, e161, hx161_0, hx161_1, hx161_2, hx161_3, hl161_2, hi161_2, hl161_3, hi161_3⟩ := zbL HR0.out t160 p161 q161; cases e161; replace hx161_0 := (HB.out.cell (World.block_lt_of_cell? w _ hx161_0)).trans hx161_0; replace hx161_1 := (HB.out.cell (World.block_lt_of_cell? w _ hx161_1)).trans hx161_1; replace hx161_2 := (HB.out.cell (World.block_lt_of_cell? w _ hx161_2)).trans hx161_2; replace hx161_3 := (HB.out.cell (World.block_lt_of_cell? w _ hx161_3)).trans hx161_3; have HR161_2 := zaa.mk hi161_2; have HC161_2 := zaa.mk hl161_2; clear hi161_2 hl161_2; have HR161_3 := zaa.mk hi161_3; have HC161_3 := zaa.mk hl161_3; clear hi161_3 hl161_3; replace p161 := eq_true p161; replace q161 := eq_true q161) | (clear Tk4_; go_at_call 14; (with_reducible refine (zaj.calls kj3 _ _ l0 ((zaf l0 t160).f0) t162 _ ?side1 ?side2 A18.out).mono ?_); (case side1 => repeat (first | exact (Kd.zar HR0.out (by repeat (first | (with_reducible first | exact HB.out | apply zad | apply zab | apply zae) | exact HB.out))) | (with_reducible refine Kd.zaP ?_ _) | (with_reducible refine Kd.zaR ?_ _) | (with_reducible refine Kd.za1 ?_))); (case side2 => exact HC0.out); rintro e w19 ⟨v163, rfl, ho0, hb⟩; have n0_ := zaa.mk (Kd.zbm ho0 (zax (by repeat (first | (with_reducible first | exact HB.out | apply zad | apply zab | apply zae) | exact HB.out)))); have n1_ := zaa.mk (zas (by repeat (first | (with_reducible first | exact HB.out | apply zad | apply zab | apply zae) | exact HB.out)) hb); clear HB; have HO164 := n0_; have HB := n1_; clear n0_ n1_; (try clear hb); (try clear hb2); (try clear hk); (try clear hi); (try clear ho0))))
      go_loopg [8] kj3 (fun kq v8 w' => ∃ (x8_2 : Int), v8 = .int .i64 x8_2 ∧ zaa (chaperonlaw05_TableOnce.l0 kq l0 t156 ((zaf l0 t160).f0) t162 x8_2 = some r) ∧ zaa (kq ≤ kj3) ∧ zaa (Kd.R k42 42 w' w.heap.size (fun _ => True) v163 t162) ∧ zaa (Below w.heap.size w w'))
      case atStart => exact ⟨(0), (by first | rfl | (simp; done) | (simp [*]; done)), H', ⟨Nat.le_refl _⟩, ⟨by (with_reducible repeat (first | apply Kd.zaA | apply Kd.zaC | apply Kd.zaL)); exact HO164.out⟩, ⟨by repeat (first | (with_reducible first | exact HB.out | apply zad | apply zab | apply zae) | exact HB.out)⟩⟩
      case round =>
       clear H'
       try clear c1
       try clear p1
       try clear q1
       try clear hx1
       try clear p2
       try clear c4
       try clear c7
       try clear c9
       try clear c9b0
       try clear c9b1
       try clear c9b2
       try clear c14
       try clear c16
       try clear c16b0
       try clear p16
       try clear q16
       try clear hx16
       try clear c17
       try clear c17b0
       try clear hx161_0
       try clear hx161_1
       try clear hx161_2
       try clear hx161_3
       try clear p161
       try clear p2
       try clear q161
       obtain ⟨x8_2, rfl, HA, HK2, HO_7, HB⟩ := hrel
       cases gk with
       | zero => exact absurd HA.out (by simp [chaperonlaw05_TableOnce.l0])
       | succ k2 =>
        have H := HA.out
        clear HA
        simp only [chaperonlaw05_TableOnce.l0] at H
        by_cases c20 : x8_2 < (t162.length : Int)
        ·
         rw [if_pos c20] at H
         have c20b0 : decide (x8_2 < (t162.length : Int)) = true := decide_eq_true c20
         clear c20
         have H' := zaa.mk H
         clear H
         obtain ⟨Ao21, co21, eo21⟩ := Kd.zaZ HO_7.out
         subst eo21
         go_wp2
         repeat (go_quiet (fail); try go_wp2)
         go_loopg [9] k2 (fun kq v9 w' => ∃ (x9_3 : Int), v9 = .int .i64 x9_3 ∧ zaa (chaperonlaw05_TableOnce.l1 kq l0 t156 ((zaf l0 t160).f0) t162 x8_2 x9_3 = some r) ∧ zaa (kq ≤ k2) ∧ zaa (Kd.R k42 42 w' w.heap.size (fun _ => True) (.slice Ao21 t162.length co21) t162) ∧ zaa (Below w.heap.size w w'))
         case atStart => exact ⟨(0), (by first | rfl | (simp; done) | (simp [*]; done)), H', ⟨Nat.le_refl _⟩, ⟨by (with_reducible repeat (first | apply Kd.zaA | apply Kd.zaC | apply Kd.zaL)); exact HO_7.out⟩, ⟨by repeat (first | (with_reducible first | exact HB.out | apply zad | apply zab | apply zae) | exact HB.out)⟩⟩
         case round =>
          clear H'
          try clear c1
          try clear p1
          try clear q1
          try clear hx1
          try clear c2
          try clear p2
          try clear c4
          try clear c7
          try clear c9
          try clear c9b0
          try clear c9b1
          try clear c9b2
          try clear c14
          try clear c16
          try clear c16b0
          try clear p16
          try clear q16
          try clear hx16
          try clear c17
          try clear c17b0
          try clear c20
          try clear c20b0
          try clear hx161_0
          try clear hx161_1
          try clear hx161_2
          try clear hx161_3
          try clear p1
          try clear p16
          try clear p161
          try clear p2
          try clear q1
          try clear q16
          try clear q161
          obtain ⟨x9_3, rfl, HA, HK3, HO_7, HB⟩ := hrel
          cases gk with
          | zero => exact absurd HA.out (by simp [chaperonlaw05_TableOnce.l1])
          | succ k3 =>
           have H := HA.out
           clear HA
           simp only [chaperonlaw05_TableOnce.l1] at H
           by_cases c22 : x9_3 < x8_2
           ·
            rw [if_pos c22] at H
            have c22b0 : decide (x9_3 < x8_2) = true := decide_eq_true c22
            clear c22
            by_cases c23 : 0 ≤ x9_3
            ·
             rw [if_pos c23] at H
             have c23b0 : decide (0 ≤ x9_3) = true := decide_eq_true c23
             clear c23
             by_cases c24 : x9_3 < (t162.length : Int)
             ·
              rw [if_pos c24] at H
              have c24b0 : decide (x9_3 < (t162.length : Int)) = true := decide_eq_true c24
              clear c24
              by_cases c25 : 0 ≤ x8_2
              ·
               rw [if_pos c25] at H
               have c25b0 : decide (0 ≤ x8_2) = true := decide_eq_true c25
               clear c25
               by_cases c26 : x8_2 < (t162.length : Int)
               ·
                rw [if_pos c26] at H
                have c26b0 : decide (x8_2 < (t162.length : Int)) = true := decide_eq_true c26
                clear c26
                by_cases c27 : ((zaN t162 x9_3).f0).toList = ((zaN t162 x8_2).f0).toList
                ·
                 rw [if_pos c27] at H
                 exact absurd H s9
                ·
                 rw [if_neg c27] at H
                 have c27b0 : (((zaN t162 x9_3).f0).toList == ((zaN t162 x8_2).f0).toList) = false := beq_eq_false_iff_ne.mpr c27
                 have c27b1 : (((zaN t162 x9_3).f0).toList != ((zaN t162 x8_2).f0).toList) = true := bne_iff_ne.mpr c27
                 have H' := zaa.mk H
                 clear H
                 have p171 : 0 ≤ (x9_3 : Int) := of_decide_eq_true (by first | (with_reducible assumption) | assumption)
                 have q171 : x9_3 < (t162.length : Int) := of_decide_eq_true (by first | (with_reducible assumption) | assumption)
                 obtain ⟨ad171, e171, hx171_0, hx171_1⟩ := zbr (Kd.zaT HO_7.out).2.2 x9_3 p171 q171
                 cases e171
                 replace p171 := eq_true p171
                 replace q171 := eq_true q171
                 have p172 : 0 ≤ (x8_2 : Int) := of_decide_eq_true (by first | (with_reducible assumption) | assumption)
                 have q172 : x8_2 < (t162.length : Int) := of_decide_eq_true (by first | (with_reducible assumption) | assumption)
                 obtain ⟨ad172, e172, hx172_0, hx172_1⟩ := zbr (Kd.zaT HO_7.out).2.2 x8_2 p172 q172
                 obtain rfl : ad171 = ad172 := (by injection e172)
                 replace p172 := eq_true p172
                 replace q172 := eq_true q172
                 go_wp2
                 repeat (go_quiet (fail); try go_wp2)
                 go_roundg k3
                 case measure => have := HJ3.out; have := HK2.out; have := HK3.out; omega
                 case rel => exact ⟨(wrap64 (x9_3 + 1)), (by first | rfl | (simp; done) | (simp [*]; done)), H', ⟨by have := HJ3.out; have := HK2.out; have := HK3.out; omega⟩, ⟨by (with_reducible repeat (first | apply Kd.zaA | apply Kd.zaC | apply Kd.zaL)); exact HO_7.out⟩, ⟨by repeat (first | (with_reducible first | exact HB.out | apply zad | apply zab | apply zae) | exact HB.out)⟩⟩
               ·
                rw [if_neg c26] at H
                exact absurd H s9
              ·
               rw [if_neg c25] at H
               exact absurd H s9
             ·
              rw [if_neg c24] at H
              exact absurd H s9
            ·
             rw [if_neg c23] at H
             exact absurd H s9
           ·
            rw [if_neg c22] at H
            have c22b0 : decide (x9_3 < x8_2) = false := decide_eq_false c22
            clear c22
            by_cases c28 : 0 ≤ x8_2
            ·
             rw [if_pos c28] at H
             have c28b0 : decide (0 ≤ x8_2) = true := decide_eq_true c28
             clear c28
             by_cases c29 : x8_2 < (t162.length : Int)
             ·
              rw [if_pos c29] at H
              have c29b0 : decide (x8_2 < (t162.length : Int)) = true := decide_eq_true c29
              clear c29
              replace H := Option.bind_eq_some_iff.mp H
              obtain ⟨⟨t174, t175⟩, A300, H⟩ := H
              replace H : ((za3.f l0 ((zaf l0 t160).f0) ((zaN t162 x8_2).f0)).bind fun bt177 => ((zaX.f l0 ((zaf l0 t160).f0) ((zaN t162 x8_2).f0)).bind fun bt180 => (if t175 = true then (if t174 = ((zaN t162 x8_2).f1) then (if (bt177.2 == bt180.2.2.2.2) = true then (none) else (if (bt177.2 != (t174 == (-1))) = true then (none) else (if bt180.2.2.2.2 = true then (if (bt180.2.1.length : Int) = t174 then (if bt180.2.2.2.1.toList = ([] : List UInt8) then (none) else (chaperonlaw05_TableOnce.l0 k3 l0 t156 ((zaf l0 t160).f0) t162 (wrap64 (x8_2 + 1)))) else (none)) else (chaperonlaw05_TableOnce.l0 k3 l0 t156 ((zaf l0 t160).f0) t162 (wrap64 (x8_2 + 1)))))) else (none)) else (none)))) = some r := H
              have A30 := zaa.mk A300
              clear A300
              replace H := Option.bind_eq_some_iff.mp H
              obtain ⟨⟨t177, t178⟩, A310, H⟩ := H
              replace H : ((zaX.f l0 ((zaf l0 t160).f0) ((zaN t162 x8_2).f0)).bind fun bt180 => (if t175 = true then (if t174 = ((zaN t162 x8_2).f1) then (if (t178 == bt180.2.2.2.2) = true then (none) else (if (t178 != (t174 == (-1))) = true then (none) else (if bt180.2.2.2.2 = true then (if (bt180.2.1.length : Int) = t174 then (if bt180.2.2.2.1.toList = ([] : List UInt8) then (none) else (chaperonlaw05_TableOnce.l0 k3 l0 t156 ((zaf l0 t160).f0) t162 (wrap64 (x8_2 + 1)))) else (none)) else (chaperonlaw05_TableOnce.l0 k3 l0 t156 ((zaf l0 t160).f0) t162 (wrap64 (x8_2 + 1)))))) else (none)) else (none))) = some r := H
              have A31 := zaa.mk A310
              clear A310
              replace H := Option.bind_eq_some_iff.mp H
              obtain ⟨⟨t180, t181, t184, t185, t186⟩, A320, H⟩ := H
              replace H : (if t175 = true then (if t174 = ((zaN t162 x8_2).f1) then (if (t178 == t186) = true then (none) else (if (t178 != (t174 == (-1))) = true then (none) else (if t186 = true then (if (t181.length : Int) = t174 then (if t185.toList = ([] : List UInt8) then (none) else (chaperonlaw05_TableOnce.l0 k3 l0 t156 ((zaf l0 t160).f0) t162 (wrap64 (x8_2 + 1)))) else (none)) else (chaperonlaw05_TableOnce.l0 k3 l0 t156 ((zaf l0 t160).f0) t162 (wrap64 (x8_2 + 1)))))) else (none)) else (none)) = some r := H
              have A32 := zaa.mk A320
              clear A320
              by_cases c33 : t175 = true
              ·
               subst c33
               have H1 : (if t174 = ((zaN t162 x8_2).f1) then (if (t178 == t186) = true then (none) else (if (t178 != (t174 == (-1))) = true then (none) else (if t186 = true then (if (t181.length : Int) = t174 then (if t185.toList = ([] : List UInt8) then (none) else (chaperonlaw05_TableOnce.l0 k3 l0 t156 ((zaf l0 t160).f0) t162 (wrap64 (x8_2 + 1)))) else (none)) else (chaperonlaw05_TableOnce.l0 k3 l0 t156 ((zaf l0 t160).f0) t162 (wrap64 (x8_2 + 1)))))) else (none)) = some r := by rw [if_pos rfl] at H; exact H
               clear H
               have H := H1
               clear H1
               by_cases c34 : t174 = ((zaN t162 x8_2).f1)
               ·
                rw [if_pos c34] at H
                have c34b0 : (t174 == ((zaN t162 x8_2).f1)) = true := beq_iff_eq.mpr c34
                have c34b1 : (t174 != ((zaN t162 x8_2).f1)) = false := bne_eq_false_iff_eq.mpr c34
                clear c34
                by_cases c35 : (t178 == t186) = true
                ·
                 rw [if_pos c35] at H
                 exact absurd H s9
                ·
                 rw [if_neg c35] at H
                 have c35b0 : (t178 == t186) = false := by simpa using c35
                 (try (have c35b1 : decide (t178 = t186) = false := by simpa using c35))
                 (try (have c35b2 : (t178 == t186) = false := by simpa using c35))
                 (try (have c35b3 : ¬ (t178 = t186) := by simpa using c35))
                 clear c35
                 by_cases c36 : (t178 != (t174 == (-1))) = true
                 ·
                  rw [if_pos c36] at H
                  exact absurd H s9
                 ·
                  rw [if_neg c36] at H
                  have c36b0 : (t178 != (t174 == (-1))) = false := by simpa using c36
                  (try (have c36b1 : decide (t178 = (t174 == (-1))) = true := by simpa using c36))
                  (try (have c36b2 : (t178 == (t174 == (-1))) = true := by simpa using c36))
                  clear c36
                  have c36e : (t174 == (-1)) = t178 := by have h_ := c36b0; revert h_; cases t178 <;> simp
                  have c36d : decide (t174 = (-1)) = t178 := by have h_ := c36b0; revert h_; cases t178 <;> simp
                  by_cases c37 : t186 = true
                  ·
                   subst c37
                   have H1 : (if (t181.length : Int) = t174 then (if t185.toList = ([] : List UInt8) then (none) else (chaperonlaw05_TableOnce.l0 k3 l0 t156 ((zaf l0 t160).f0) t162 (wrap64 (x8_2 + 1)))) else (none)) = some r := by rw [if_pos rfl] at H; exact H
                   clear H
                   have H := H1
                   clear H1
                   by_cases c38 : (t181.length : Int) = t174
                   ·
                    rw [if_pos c38] at H
                    have c38b0 : ((t181.length : Int) == t174) = true := beq_iff_eq.mpr c38
                    have c38b1 : ((t181.length : Int) != t174) = false := bne_eq_false_iff_eq.mpr c38
                    clear c38
                    by_cases c39 : t185.toList = ([] : List UInt8)
                    ·
                     rw [if_pos c39] at H
                     exact absurd H s9
                    ·
                     rw [if_neg c39] at H
                     have c39b0 : (t185.toList == ([] : List UInt8)) = false := beq_eq_false_iff_ne.mpr c39
                     have c39b1 : (t185.toList != ([] : List UInt8)) = true := bne_iff_ne.mpr c39
                     have H' := zaa.mk H
                     clear H
                     have p173 : 0 ≤ (x8_2 : Int) := of_decide_eq_true (by first | (with_reducible assumption) | assumption)
                     have q173 : x8_2 < (t162.length : Int) := of_decide_eq_true (by first | (with_reducible assumption) | assumption)
                     obtain ⟨ad173, e173, hx173_0, hx173_1⟩ := zbr (Kd.zaT HO_7.out).2.2 x8_2 p173 q173
                     cases e173
                     replace p173 := eq_true p173
                     replace q173 := eq_true q173
                     go_wp2_with (first | (go_at_call 9; (with_reducible refine (zaQ.calls k3 _ _ l0 ((zaf l0 t160).f0) ((zaN t162 x8_2).f0) t174 true _ ?side1 ?side2 A30.out).mono ?_); (case side1 => repeat (first | exact (Kd.zar HR0.out HB.out) | (with_reducible refine Kd.zaP ?_ _) | (with_reducible refine Kd.zaR ?_ _) | (with_reducible refine Kd.za1 ?_))); (case side2 => exact HC0.out); rintro e w40 ⟨rfl, hb⟩; have n0_ := zaa.mk (Kd.zaE (by (with_reducible repeat (first | apply Kd.zaA | apply Kd.zaC | apply Kd.zaL)); exact HO_7.out) hb); have n1_ := zaa.mk (zas (by repeat (first | (with_reducible first | exact HB.out | apply zad | apply zab | apply zae) | exact HB.out)) hb); clear HO_7; clear HB; have HO_7 := n0_; have HB := n1_; clear n0_ n1_; (try clear hb); (try clear hb2); (try clear hk); (try clear hi); have p176 : 0 ≤ (x8_2 : Int) := of_decide_eq_true (by first | (with_reducible assumption) | assumption); have q176 : x8_2 < (t162.length : Int) := of_decide_eq_true (by first | (with_reducible assumption) | assumption); obtain ⟨ad176, e176, hx176_0, hx176_1⟩ := zbr (Kd.zaT HO_7.out).2.2 x8_2 p176 q176; obtain rfl : ad173 = ad176 := (by injection e176); replace p176 := eq_true p176; replace q176 := eq_true q176) | (go_at_call 8; (with_reducible refine (za3.calls _ _ l0 ((zaf l0 t160).f0) ((zaN t162 x8_2).f0) t177 t178 _ ?side1 ?side2 A31.out).mono ?_); (case side1 => repeat (first | exact (Kd.zar HR0.out HB.out) | (with_reducible refine Kd.zaP ?_ _) | (with_reducible refine Kd.zaR ?_ _) | (with_reducible refine Kd.za1 ?_))); (case side2 => exact HC0.out); rintro e w41 ⟨rfl, hb⟩; have n0_ := zaa.mk (Kd.zaE (by (with_reducible repeat (first | apply Kd.zaA | apply Kd.zaC | apply Kd.zaL)); exact HO_7.out) hb); have n1_ := zaa.mk (zas (by repeat (first | (with_reducible first | exact HB.out | apply zad | apply zab | apply zae) | exact HB.out)) hb); clear HO_7; clear HB; have HO_7 := n0_; have HB := n1_; clear n0_ n1_; (try clear hb); (try clear hb2); (try clear hk); (try clear hi); have p179 : 0 ≤ (x8_2 : Int) := of_decide_eq_true (by first | (with_reducible assumption) | assumption); have q179 : x8_2 < (t162.length : Int) := of_decide_eq_true (by first | (with_reducible assumption) | assumption); obtain ⟨ad179, e179, hx179_0, hx179_1⟩ := zbr (Kd.zaT HO_7.out).2.2 x8_2 p179 q179; obtain rfl : ad173 = ad179 := (by injection e179); replace p179 := eq_true p179; replace q179 := eq_true q179) | (go_at_call 7; (with_reducible refine (zaX.calls _ _ l0 ((zaf l0 t160).f0) ((zaN t162 x8_2).f0) t180 t181 t184 t185 true _ ?side1 ?side2 A32.out).mono ?_); (case side1 => repeat (first | exact (Kd.zar HR0.out HB.out) | (with_reducible refine Kd.zaP ?_ _) | (with_reducible refine Kd.zaR ?_ _) | (with_reducible refine Kd.za1 ?_))); (case side2 => exact HC0.out); rintro e w42 ⟨v182, rfl, ho0, hb⟩; have n0_ := zaa.mk (Kd.zaE (by (with_reducible repeat (first | apply Kd.zaA | apply Kd.zaC | apply Kd.zaL)); exact HO_7.out) hb); have n1_ := zaa.mk (Kd.zbm ho0 (zax (by repeat (first | (with_reducible first | exact HB.out | apply zad | apply zab | apply zae) | exact HB.out)))); have n2_ := zaa.mk (zas (by repeat (first | (with_reducible first | exact HB.out | apply zad | apply zab | apply zae) | exact HB.out)) hb); clear HO_7; clear HB; have HO_7 := n0_; have HO183 := n1_; have HB := n2_; clear n0_ n1_ n2_; (try clear hb); (try clear hb2); (try clear hk); (try clear hi); (try clear ho0)) | ((with_reducible refine zbk (N := 14) rfl ?_); (try (refine zbj (by rfl) ?_; dsimp only)); refine zbl ?hg (N := 14) ?hd (cs := #[.string (⟨#[]⟩ : ByteArray), .slice none 0 0, .string (⟨#[]⟩ : ByteArray)]) (t := 26) ?hr ?_; (case hd => rfl); (case hg => rfl); (case hr => first | (go_simp; done) | (go_simp; rfl)); intro gb187 hg w43 hbox hb; have n0_ := zaa.mk (Kd.zaE (by (with_reducible repeat (first | apply Kd.zaA | apply Kd.zaC | apply Kd.zaL)); exact HO_7.out) hb); have n1_ := zaa.mk (Kd.zaE (by (with_reducible repeat (first | apply Kd.zaA | apply Kd.zaC | apply Kd.zaL)); exact HO183.out) hb); have n2_ := zaa.mk (zas (by repeat (first | (with_reducible first | exact HB.out | apply zad | apply zab | apply zae) | exact HB.out)) hb); have n3_ := zaa.mk (hbox); have n4_ := zaa.mk ((by rw [hg]; exact (zax (by repeat (first | (with_reducible first | exact HB.out | apply zad | apply zab | apply zae) | exact HB.out))) : w.heap.size ≤ gb187)); have n5_ := zaa.mk ((by rw [hg]; exact (zax (by repeat (first | (with_reducible first | exact HB.out | apply zad | apply zab | apply zae) | exact HB.out))) : w.heap.size ≤ gb187)); clear HO_7; clear HO183; clear HB; have HO_7 := n0_; have HO183 := n1_; have HB := n2_; have BK187 := n3_; have GW187 := n4_; have GE187 := n5_; clear n0_ n1_ n2_ n3_ n4_ n5_; clear hb hbox hg; have hcz44_0 : w43.cell? ⟨gb187, 0, none⟩ = some (.string (⟨#[]⟩ : ByteArray)) := (zaq BK187.out 0).trans rfl; have hcz44_1 : w43.cell? ⟨gb187, 1, none⟩ = some (.slice none 0 0) := (zaq BK187.out 1).trans rfl; have hcz44_2 : w43.cell? ⟨gb187, 2, none⟩ = some (.string (⟨#[]⟩ : ByteArray)) := (zaq BK187.out 2).trans rfl; have hfz44_0 := zak BK187.out 0; have hfz44_1 := zak BK187.out 1; have hfz44_2 := zak BK187.out 2; obtain ⟨Ao45, co45, eo45⟩ := Kd.zaZ HO183.out; subst eo45; have p188 : 0 ≤ (x8_2 : Int) := of_decide_eq_true (by first | (with_reducible assumption) | assumption); have q188 : x8_2 < (t162.length : Int) := of_decide_eq_true (by first | (with_reducible assumption) | assumption); obtain ⟨ad188, e188, hx188_0, hx188_1⟩ := zbr (Kd.zaT HO_7.out).2.2 x8_2 p188 q188; obtain rfl : ad173 = ad188 := (by injection e188); have hn188_0 : ad173.block ≠ gb187 := Kd.zbt (Kd.R_ne HO_7.out BK187.out d9); have hn188_1 : ad173.block ≠ gb187 := Kd.zbt (Kd.R_ne HO_7.out BK187.out d9); have hn188_2 : ad173.block ≠ gb187 := Kd.zbt (Kd.R_ne HO_7.out BK187.out d9); replace hx188_0 := (cell_far (p := ⟨gb187, 0, none⟩) (by first | (rw [add_block]; exact hn188_0) | (show (Addr.add _ _).block ≠ _; rw [add_block]; exact hn188_0) | exact hn188_0) (.string t180)).trans hx188_0; replace hx188_1 := (cell_far (p := ⟨gb187, 0, none⟩) (by first | (rw [add_block]; exact hn188_0) | (show (Addr.add _ _).block ≠ _; rw [add_block]; exact hn188_0) | exact hn188_0) (.string t180)).trans hx188_1; replace hx188_0 := (cell_far (p := ⟨gb187, 1, none⟩) (by first | (rw [add_block]; exact hn188_1) | (show (Addr.add _ _).block ≠ _; rw [add_block]; exact hn188_1) | exact hn188_1) (.slice Ao45 t181.length co45)).trans hx188_0; replace hx188_1 := (cell_far (p := ⟨gb187, 1, none⟩) (by first | (rw [add_block]; exact hn188_1) | (show (Addr.add _ _).block ≠ _; rw [add_block]; exact hn188_1) | exact hn188_1) (.slice Ao45 t181.length co45)).trans hx188_1; replace hx188_0 := (cell_far (p := ⟨gb187, 2, none⟩) (by first | (rw [add_block]; exact hn188_2) | (show (Addr.add _ _).block ≠ _; rw [add_block]; exact hn188_2) | exact hn188_2) (.string t184)).trans hx188_0; replace hx188_1 := (cell_far (p := ⟨gb187, 2, none⟩) (by first | (rw [add_block]; exact hn188_2) | (show (Addr.add _ _).block ≠ _; rw [add_block]; exact hn188_2) | exact hn188_2) (.string t184)).trans hx188_1; (try have hy188_0 := fun (n_ : Nat) => (show (((((w43.drewN n_).setCell ⟨gb187, 0, none⟩ (.string t180)).setCell ⟨gb187, 1, none⟩ (.slice Ao45 t181.length co45)).setCell ⟨gb187, 2, none⟩ (.string t184))).cell? _ = some _ from hx188_0)); (try have hy188_1 := fun (n_ : Nat) => (show (((((w43.drewN n_).setCell ⟨gb187, 0, none⟩ (.string t180)).setCell ⟨gb187, 1, none⟩ (.slice Ao45 t181.length co45)).setCell ⟨gb187, 2, none⟩ (.string t184))).cell? _ = some _ from hx188_1)); clear hn188_0; clear hn188_1; clear hn188_2; replace p188 := eq_true p188; replace q188 := eq_true q188))
                     have Tk1_ := zaa.mk True.intro
                     have Tk2_ := zaa.mk True.intro
                     have Tk3_ := zaa.mk True.intro
                     have Tk4_ := zaa.mk True.intro
                     have Tk5_ := zaa.mk True.intro
                     have Tk6_ := zaa.mk True.intro
                     repeat (go_quiet (first | (clear Tk1_; go_at_call 9; (with_reducible refine (zaQ.calls k3 _ _ l0 ((zaf l0 t160).f0) ((zaN t162 x8_2).f0) t174 true _ ?side1 ?side2 A30.out).mono ?_); (case side1 => repeat (first | exact (Kd.zar HR0.out HB.out) | (with_reducible refine Kd.zaP ?_ _) | (with_reducible refine Kd.zaR ?_ _) | (with_reducible refine Kd.za1 ?_))); (case side2 => exact HC0.out); rintro e w40 ⟨rfl, hb⟩; have n0_ := zaa.mk (Kd.zaE (by (with_reducible repeat (first | apply Kd.zaA | apply Kd.zaC | apply Kd.zaL)); exact HO_7.out) hb); have n1_ := zaa.mk (zas (by repeat (first | (with_reducible first | exact HB.out | apply zad | apply zab | apply zae) | exact HB.out)) hb); clear HO_7; clear HB; have HO_7 := n0_; have HB := n1_; clear n0_ n1_; (try clear hb); (try clear hb2); (try clear hk); (try clear hi); have p176 : 0 ≤ (x8_2 : Int) := of_decide_eq_true (by first | (with_reducible assumption) | assumption); have q176 : x8_2 < (t162.length : Int) := of_decide_eq_true (by first | (with_reducible assumption) | assumption); obtain ⟨ad176, e176, hx176_0, hx176_1⟩ := zbr (Kd.zaT HO_7.out).2.2 x8_2 p176 q176; obtain rfl : ad173 = ad176 := (by injection e176); replace p176 := eq_true p176; replace q176 := eq_true q176) | (clear Tk2_; go_at_call 8; (with_reducible refine (za3.calls _ _ l0 ((zaf l0 t160).f0) ((zaN t162 x8_2).f0) t177 t178 _ ?side1 ?side2 A31.out).mono ?_); (case side1 => repeat (first | exact (Kd.zar HR0.out HB.out) | (with_reducible refine Kd.zaP ?_ _) | (with_reducible refine Kd.zaR ?_ _) | (with_reducible refine Kd.za1 ?_))); (case side2 => exact HC0.out); rintro e w41 ⟨rfl, hb⟩; have n0_ := zaa.mk (Kd.zaE (by (with_reducible repeat (first | apply Kd.zaA | apply Kd.zaC | apply Kd.zaL)); exact HO_7.out) hb); have n1_ := zaa.mk (zas (by repeat (first | (with_reducible first | exact HB.out | apply zad | apply zab | apply zae) | exact HB.out)) hb); clear HO_7; clear HB; have HO_7 := n0_; have HB := n1_; clear n0_ n1_; (try clear hb); (try clear hb2); (try clear hk); (try clear hi); have p179 : 0 ≤ (x8_2 : Int) := of_decide_eq_true (by first | (with_reducible assumption) | assumption); have q179 : x8_2 < (t162.length : Int) := of_decide_eq_true (by first | (with_reducible assumption) | assumption); obtain ⟨ad179, e179, hx179_0, hx179_1⟩ := zbr (Kd.zaT HO_7.out).2.2 x8_2 p179 q179; obtain rfl : ad173 = ad179 := (by injection e179); replace p179 := eq_true p179; replace q179 := eq_true q179) | (clear Tk3_; go_at_call 7; (with_reducible refine (zaX.calls _ _ l0 ((zaf l0 t160).f0) ((zaN t162 x8_2).f0) t180 t181 t184 t185 true _ ?side1 ?side2 A32.out).mono ?_); (case side1 => repeat (first | exact (Kd.zar HR0.out HB.out) | (with_reducible refine Kd.zaP ?_ _) | (with_reducible refine Kd.zaR ?_ _) | (with_reducible refine Kd.za1 ?_))); (case side2 => exact HC0.out); rintro e w42 ⟨v182, rfl, ho0, hb⟩; have n0_ := zaa.mk (Kd.zaE (by (with_reducible repeat (first | apply Kd.zaA | apply Kd.zaC | apply Kd.zaL)); exact HO_7.out) hb); have n1_ := zaa.mk (Kd.zbm ho0 (zax (by repeat (first | (with_reducible first | exact HB.out | apply zad | apply zab | apply zae) | exact HB.out)))); have n2_ := zaa.mk (zas (by repeat (first | (with_reducible first | exact HB.out | apply zad | apply zab | apply zae) | exact HB.out)) hb); clear HO_7; clear HB; have HO_7 := n0_; have HO183 := n1_; have HB := n2_; clear n0_ n1_ n2_; (try clear hb); (try clear hb2); (try clear hk); (try clear hi); (try clear ho0)) | ((with_reducible refine zbk (N := 14) rfl ?_); (try (refine zbj (by rfl) ?_; dsimp only)); refine zbl ?hg (N := 14) ?hd (cs := #[.string (⟨#[]⟩ : ByteArray), .slice none 0 0, .string (⟨#[]⟩ : ByteArray)]) (t := 26) ?hr ?_; (case hd => rfl); (case hg => rfl); (case hr => first | (go_simp; done) | (go_simp; rfl)); intro gb187 hg w43 hbox hb; have n0_ := zaa.mk (Kd.zaE (by (with_reducible repeat (first | apply Kd.zaA | apply Kd.zaC | apply Kd.zaL)); exact HO_7.out) hb); have n1_ := zaa.mk (Kd.zaE (by (with_reducible repeat (first | apply Kd.zaA | apply Kd.zaC | apply Kd.zaL)); exact HO183.out) hb); have n2_ := zaa.mk (zas (by repeat (first | (with_reducible first | exact HB.out | apply zad | apply zab | apply zae) | exact HB.out)) hb); have n3_ := zaa.mk (hbox); have n4_ := zaa.mk ((by rw [hg]; exact (zax (by repeat (first | (with_reducible first | exact HB.out | apply zad | apply zab | apply zae) | exact HB.out))) : w.heap.size ≤ gb187)); have n5_ := zaa.mk ((by rw [hg]; exact (zax (by repeat (first | (with_reducible first | exact HB.out | apply zad | apply zab | apply zae) | exact HB.out))) : w.heap.size ≤ gb187)); clear HO_7; clear HO183; clear HB; have HO_7 := n0_; have HO183 := n1_; have HB := n2_; have BK187 := n3_; have GW187 := n4_; have GE187 := n5_; clear n0_ n1_ n2_ n3_ n4_ n5_; clear hb hbox hg; have hcz44_0 : w43.cell? ⟨gb187, 0, none⟩ = some (.string (⟨#[]⟩ : ByteArray)) := (zaq BK187.out 0).trans rfl; have hcz44_1 : w43.cell? ⟨gb187, 1, none⟩ = some (.slice none 0 0) := (zaq BK187.out 1).trans rfl; have hcz44_2 : w43.cell? ⟨gb187, 2, none⟩ = some (.string (⟨#[]⟩ : ByteArray)) := (zaq BK187.out 2).trans rfl; have hfz44_0 := zak BK187.out 0; have hfz44_1 := zak BK187.out 1; have hfz44_2 := zak BK187.out 2; obtain ⟨Ao45, co45, eo45⟩ := Kd.zaZ HO183.out; subst eo45; have p188 : 0 ≤ (x8_2 : Int) := of_decide_eq_true (by first | (with_reducible assumption) | assumption); have q188 : x8_2 < (t162.length : Int) := of_decide_eq_true (by first | (with_reducible assumption) | assumption); obtain ⟨ad188, e188, hx188_0, hx188_1⟩ := zbr (Kd.zaT HO_7.out).2.2 x8_2 p188 q188; obtain rfl : ad173 = ad188 := (by injection e188); have hn188_0 : ad173.block ≠ gb187 := Kd.zbt (Kd.R_ne HO_7.out BK187.out d9); have hn188_1 : ad173.block ≠ gb187 := Kd.zbt (Kd.R_ne HO_7.out BK187.out d9); have hn188_2 : ad173.block ≠ gb187 := Kd.zbt (Kd.R_ne HO_7.out BK187.out d9); replace hx188_0 := (cell_far (p := ⟨gb187, 0, none⟩) (by first | (rw [add_block]; exact hn188_0) | (show (Addr.add _ _).block ≠ _; rw [add_block]; exact hn188_0) | exact hn188_0) (.string t180)).trans hx188_0; replace hx188_1 := (cell_far (p := ⟨gb187, 0, none⟩) (by first | (rw [add_block]; exact hn188_0) | (show (Addr.add _ _).block ≠ _; rw [add_block]; exact hn188_0) | exact hn188_0) (.string t180)).trans hx188_1; replace hx188_0 := (cell_far (p := ⟨gb187, 1, none⟩) (by first | (rw [add_block]; exact hn188_1) | (show (Addr.add _ _).block ≠ _; rw [add_block]; exact hn188_1) | exact hn188_1) (.slice Ao45 t181.length co45)).trans hx188_0; replace hx188_1 := (cell_far (p := ⟨gb187, 1, none⟩) (by first | (rw [add_block]; exact hn188_1) | (show (Addr.add _ _).block ≠ _; rw [add_block]; exact hn188_1) | exact hn188_1) (.slice Ao45 t181.length co45)).trans hx188_1; replace hx188_0 := (cell_far (p := ⟨gb187, 2, none⟩) (by first | (rw [add_block]; exact hn188_2) | (show (Addr.add _ _).block ≠ _; rw [add_block]; exact hn188_2) | exact hn188_2) (.string t184)).trans hx188_0; replace hx188_1 := (cell_far (p := ⟨gb187, 2, none⟩) (by first | (rw [add_block]; exact hn188_2) | (show (Addr.add _ _).block ≠ _; rw [add_block]; exact hn188_2) | exact hn188_2) (.string t184)).trans hx188_1; (try have hy188_0 := fun (n_ : Nat) => (show (((((w43.drewN n_).setCell ⟨gb187, 0, none⟩ (.string t180)).setCell ⟨gb187, 1, none⟩ (.slice Ao45 t181.length co45)).setCell ⟨gb187, 2, none⟩ (.string t184))).cell? _ = some _ from hx188_0)); (try have hy188_1 := fun (n_ : Nat) => (show (((((w43.drewN n_).setCell ⟨gb187, 0, none⟩ (.string t180)).setCell ⟨gb187, 1, none⟩ (.slice Ao45 t181.length co45)).setCell ⟨gb187, 2, none⟩ (.string t184))).cell? _ = some _ from hx188_1)); clear hn188_0; clear hn188_1; clear hn188_2; replace p188 := eq_true p188; replace q188 := eq_true q188)); try go_wp2_with (first | (clear Tk4_; go_at_call 9; (with_reducible refine (zaQ.calls k3 _ _ l0 ((zaf l0 t160).f0) ((zaN t162 x8_2).f0) t174 true _ ?side1 ?side2 A30.out).mono ?_); (case side1 => repeat (first | exact (Kd.zar HR0.out HB.out) | (with_reducible refine Kd.zaP ?_ _) | (with_reducible refine Kd.zaR ?_ _) | (with_reducible refine Kd.za1 ?_))); (case side2 => exact HC0.out); rintro e w40 ⟨rfl, hb⟩; have n0_ := zaa.mk (Kd.zaE (by (with_reducible repeat (first | apply Kd.zaA | apply Kd.zaC | apply Kd.zaL)); exact HO_7.out) hb); have n1_ := zaa.mk (zas (by repeat (first | (with_reducible first | exact HB.out | apply zad | apply zab | apply zae) | exact HB.out)) hb); clear HO_7; clear HB; have HO_7 := n0_; have HB := n1_; clear n0_ n1_; (try clear hb); (try clear hb2); (try clear hk); (try clear hi); have p176 : 0 ≤ (x8_2 : Int) := of_decide_eq_true (by first | (with_reducible assumption) | assumption); have q176 : x8_2 < (t162.length : Int) := of_decide_eq_true (by first | (with_reducible assumption) | assumption); obtain ⟨ad176, e176, hx176_0, hx176_1⟩ := zbr (Kd.zaT HO_7.out).2.2 x8_2 p176 q176; obtain rfl : ad173 = ad176 := (by injection e176); replace p176 := eq_true p176; replace q176 := eq_true q176) | (clear Tk5_; go_at_call 8; (with_reducible refine (za3.calls _ _ l0 ((zaf l0 t160).f0) ((zaN t162 x8_2).f0) t177 t178 _ ?side1 ?side2 A31.out).mono ?_); (case side1 => repeat (first | exact (Kd.zar HR0.out HB.out) | (with_reducible refine Kd.zaP ?_ _) | (with_reducible refine Kd.zaR ?_ _) | (with_reducible refine Kd.za1 ?_))); (case side2 => exact HC0.out); rintro e w41 ⟨rfl, hb⟩; have n0_ := zaa.mk (Kd.zaE (by (with_reducible repeat (first | apply Kd.zaA | apply Kd.zaC | apply Kd.zaL)); exact HO_7.out) hb); have n1_ := zaa.mk (zas (by repeat (first | (with_reducible first | exact HB.out | apply zad | apply zab | apply zae) | exact HB.out)) hb); clear HO_7; clear HB; have HO_7 := n0_; have HB := n1_; clear n0_ n1_; (try clear hb); (try clear hb2); (try clear hk); (try clear hi); have p179 : 0 ≤ (x8_2 : Int) := of_decide_eq_true (by first | (with_reducible assumption) | assumption); have q179 : x8_2 < (t162.length : Int) := of_decide_eq_true (by first | (with_reducible assumption) | assumption); obtain ⟨ad179, e179, hx179_0, hx179_1⟩ := zbr (Kd.zaT HO_7.out).2.2 x8_2 p179 q179; obtain rfl : ad173 = ad179 := (by injection e179); replace p179 := eq_true p179; replace q179 := eq_true q179) | (clear Tk6_; go_at_call 7; (with_reducible refine (zaX.calls _ _ l0 ((zaf l0 t160).f0) ((zaN t162 x8_2).f0) t180 t181 t184 t185 true _ ?side1 ?side2 A32.out).mono ?_); (case side1 => repeat (first | exact (Kd.zar HR0.out HB.out) | (with_reducible refine Kd.zaP ?_ _) | (with_reducible refine Kd.zaR ?_ _) | (with_reducible refine Kd.za1 ?_))); (case side2 => exact HC0.out); rintro e w42 ⟨v182, rfl, ho0, hb⟩; have n0_ := zaa.mk (Kd.zaE (by (with_reducible repeat (first | apply Kd.zaA | apply Kd.zaC | apply Kd.zaL)); exact HO_7.out) hb); have n1_ := zaa.mk (Kd.zbm ho0 (zax (by repeat (first | (with_reducible first | exact HB.out | apply zad | apply zab | apply zae) | exact HB.out)))); have n2_ := zaa.mk (zas (by repeat (first | (with_reducible first | exact HB.out | apply zad | apply zab | apply zae) | exact HB.out)) hb); clear HO_7; clear HB; have HO_7 := n0_; have HO183 := n1_; have HB := n2_; clear n0_ n1_ n2_; (try clear hb); (try clear hb2); (try clear hk); (try clear hi); (try clear ho0)) | ((with_reducible refine zbk (N := 14) rfl ?_); (try (refine zbj (by rfl) ?_; dsimp only)); refine zbl ?hg (N := 14) ?hd (cs := #[.string (⟨#[]⟩ : ByteArray), .slice none 0 0, .string (⟨#[]⟩ : ByteArray)]) (t := 26) ?hr ?_; (case hd => rfl); (case hg => rfl); (case hr => first | (go_simp; done) | (go_simp; rfl)); intro gb187 hg w43 hbox hb; have n0_ := zaa.mk (Kd.zaE (by (with_reducible repeat (first | apply Kd.zaA | apply Kd.zaC | apply Kd.zaL)); exact HO_7.out) hb); have n1_ := zaa.mk (Kd.zaE (by (with_reducible repeat (first | apply Kd.zaA | apply Kd.zaC | apply Kd.zaL)); exact HO183.out) hb); have n2_ := zaa.mk (zas (by repeat (first | (with_reducible first | exact HB.out | apply zad | apply zab | apply zae) | exact HB.out)) hb); have n3_ := zaa.mk (hbox); have n4_ := zaa.mk ((by rw [hg]; exact (zax (by repeat (first | (with_reducible first | exact HB.out | apply zad | apply zab | apply zae) | exact HB.out))) : w.heap.size ≤ gb187)); have n5_ := zaa.mk ((by rw [hg]; exact (zax (by repeat (first | (with_reducible first | exact HB.out | apply zad | apply zab | apply zae) | exact HB.out))) : w.heap.size ≤ gb187)); clear HO_7; clear HO183; clear HB; have HO_7 := n0_; have HO183 := n1_; have HB := n2_; have BK187 := n3_; have GW187 := n4_; have GE187 := n5_; clear n0_ n1_ n2_ n3_ n4_ n5_; clear hb hbox hg; have hcz44_0 : w43.cell? ⟨gb187, 0, none⟩ = some (.string (⟨#[]⟩ : ByteArray)) := (zaq BK187.out 0).trans rfl; have hcz44_1 : w43.cell? ⟨gb187, 1, none⟩ = some (.slice none 0 0) := (zaq BK187.out 1).trans rfl; have hcz44_2 : w43.cell? ⟨gb187, 2, none⟩ = some (.string (⟨#[]⟩ : ByteArray)) := (zaq BK187.out 2).trans rfl; have hfz44_0 := zak BK187.out 0; have hfz44_1 := zak BK187.out 1; have hfz44_2 := zak BK187.out 2; obtain ⟨Ao45, co45, eo45⟩ := Kd.zaZ HO183.out; subst eo45; have p188 : 0 ≤ (x8_2 : Int) := of_decide_eq_true (by first | (with_reducible assumption) | assumption); have q188 : x8_2 < (t162.length : Int) := of_decide_eq_true (by first | (with_reducible assumption) | assumption); obtain ⟨ad188, e188, hx188_0, hx188_1⟩ := zbr (Kd.zaT HO_7.out).2.2 x8_2 p188 q188; obtain rfl : ad173 = ad188 := (by injection e188); have hn188_0 : ad173.block ≠ gb187 := Kd.zbt (Kd.R_ne HO_7.out BK187.out d9); have hn188_1 : ad173.block ≠ gb187 := Kd.zbt (Kd.R_ne HO_7.out BK187.out d9); have hn188_2 : ad173.block ≠ gb187 := Kd.zbt (Kd.R_ne HO_7.out BK187.out d9); replace hx188_0 := (cell_far (p := ⟨gb187, 0, none⟩) (by first | (rw [add_block]; exact hn188_0) | (show (Addr.add _ _).block ≠ _; rw [add_block]; exact hn188_0) | exact hn188_0) (.string t180)).trans hx188_0; replace hx188_1 := (cell_far (p := ⟨gb187, 0, none⟩) (by first | (rw [add_block]; exact hn188_0) | (show (Addr.add _ _).block ≠ _; rw [add_block]; exact hn188_0) | exact hn188_0) (.string t180)).trans hx188_1; replace hx188_0 := (cell_far (p := ⟨gb187, 1, none⟩) (by first | (rw [add_block]; exact hn188_1) | (show (Addr.add _ _).block ≠ _; rw [add_block]; exact hn188_1) | exact hn188_1) (.slice Ao45 t181.length co45)).trans hx188_0; replace hx188_1 := (cell_far (p := ⟨gb187, 1, none⟩) (by first | (rw [add_block]; exact hn188_1) | (show (Addr.add _ _).block ≠ _; rw [add_block]; exact hn188_1) | exact hn188_1) (.slice Ao45 t181.length co45)).trans hx188_1; replace hx188_0 := (cell_far (p := ⟨gb187, 2, none⟩) (by first | (rw [add_block]; exact hn188_2) | (show (Addr.add _ _).block ≠ _; rw [add_block]; exact hn188_2) | exact hn188_2) (.string t184)).trans hx188_0; replace hx188_1 := (cell_far (p := ⟨gb187, 2, none⟩) (by first | (rw [add_block]; exact hn188_2) | (show (Addr.add _ _).block ≠ _; rw [add_block]; exact hn188_2) | exact hn188_2) (.string t184)).trans hx188_1; (try have hy188_0 := fun (n_ : Nat) => (show (((((w43.drewN n_).setCell ⟨gb187, 0, none⟩ (.string t180)).setCell ⟨gb187, 1, none⟩ (.slice Ao45 t181.length co45)).setCell ⟨gb187, 2, none⟩ (.string t184))).cell? _ = some _ from hx188_0)); (try have hy188_1 := fun (n_ : Nat) => (show (((((w43.drewN n_).setCell ⟨gb187, 0, none⟩ (.string t180)).setCell ⟨gb187, 1, none⟩ (.slice Ao45 t181.length co45)).setCell ⟨gb187, 2, none⟩ (.string t184))).cell? _ = some _ from hx188_1)); clear hn188_0; clear hn188_1; clear hn188_2; replace p188 := eq_true p188; replace q188 := eq_true q188)))
                     go_roundg k3
                     case measure => have := HJ3.out; have := HK2.out; have := HK3.out; omega
                     case rel => exact ⟨(wrap64 (x8_2 + 1)), (by first | rfl | (simp; done) | (simp [*]; done)), H', ⟨by have := HJ3.out; have := HK2.out; have := HK3.out; omega⟩, ⟨by (with_reducible repeat (first | apply Kd.zaA | apply Kd.zaC | apply Kd.zaL)); exact Kd.zaS (Kd.R_far (p := ⟨gb187, 2, none⟩) (Kd.R_far (p := ⟨gb187, 1, none⟩) (Kd.R_far (p := ⟨gb187, 0, none⟩) (Kd.zce HO_7.out BK187.out d9) (fun _ hk => hk.2) (.string t180)) (fun _ hk => hk.2) (.slice Ao45 t181.length co45)) (fun _ hk => hk.2) (.string t184)) (fun _ hk => trivial)⟩, ⟨by repeat (first | (with_reducible first | exact HB.out | apply zad | apply zab | apply zae | refine zao ?_ GE187.out) | exact HB.out)⟩⟩
                   ·
                    rw [if_neg c38] at H
                    exact absurd H s9
                  ·
                   replace c37 := Bool.eq_false_iff.mpr c37
                   subst c37
                   have H1 : (chaperonlaw05_TableOnce.l0 k3 l0 t156 ((zaf l0 t160).f0) t162 (wrap64 (x8_2 + 1))) = some r := by rw [if_neg (show ¬ (false = true) by decide)] at H; exact H
                   clear H
                   have H := H1
                   clear H1
                   have H' := zaa.mk H
                   clear H
                   have p173 : 0 ≤ (x8_2 : Int) := of_decide_eq_true (by first | (with_reducible assumption) | assumption)
                   have q173 : x8_2 < (t162.length : Int) := of_decide_eq_true (by first | (with_reducible assumption) | assumption)
                   obtain ⟨ad173, e173, hx173_0, hx173_1⟩ := zbr (Kd.zaT HO_7.out).2.2 x8_2 p173 q173
                   cases e173
                   replace p173 := eq_true p173
                   replace q173 := eq_true q173
                   go_wp2_with (first | (go_at_call 9; (with_reducible refine (zaQ.calls k3 _ _ l0 ((zaf l0 t160).f0) ((zaN t162 x8_2).f0) t174 true _ ?side1 ?side2 A30.out).mono ?_); (case side1 => repeat (first | exact (Kd.zar HR0.out HB.out) | (with_reducible refine Kd.zaP ?_ _) | (with_reducible refine Kd.zaR ?_ _) | (with_reducible refine Kd.za1 ?_))); (case side2 => exact HC0.out); rintro e w46 ⟨rfl, hb⟩; have n0_ := zaa.mk (Kd.zaE (by (with_reducible repeat (first | apply Kd.zaA | apply Kd.zaC | apply Kd.zaL)); exact HO_7.out) hb); have n1_ := zaa.mk (zas (by repeat (first | (with_reducible first | exact HB.out | apply zad | apply zab | apply zae) | exact HB.out)) hb); clear HO_7; clear HB; have HO_7 := n0_; have HB := n1_; clear n0_ n1_; (try clear hb); (try clear hb2); (try clear hk); (try clear hi); have p176 : 0 ≤ (x8_2 : Int) := of_decide_eq_true (by first | (with_reducible assumption) | assumption); have q176 : x8_2 < (t162.length : Int) := of_decide_eq_true (by first | (with_reducible assumption) | assumption); obtain ⟨ad176, e176, hx176_0, hx176_1⟩ := zbr (Kd.zaT HO_7.out).2.2 x8_2 p176 q176; obtain rfl : ad173 = ad176 := (by injection e176); replace p176 := eq_true p176; replace q176 := eq_true q176) | (go_at_call 8; (with_reducible refine (za3.calls _ _ l0 ((zaf l0 t160).f0) ((zaN t162 x8_2).f0) t177 t178 _ ?side1 ?side2 A31.out).mono ?_); (case side1 => repeat (first | exact (Kd.zar HR0.out HB.out) | (with_reducible refine Kd.zaP ?_ _) | (with_reducible refine Kd.zaR ?_ _) | (with_reducible refine Kd.za1 ?_))); (case side2 => exact HC0.out); rintro e w47 ⟨rfl, hb⟩; have n0_ := zaa.mk (Kd.zaE (by (with_reducible repeat (first | apply Kd.zaA | apply Kd.zaC | apply Kd.zaL)); exact HO_7.out) hb); have n1_ := zaa.mk (zas (by repeat (first | (with_reducible first | exact HB.out | apply zad | apply zab | apply zae) | exact HB.out)) hb); clear HO_7; clear HB; have HO_7 := n0_; have HB := n1_; clear n0_ n1_; (try clear hb); (try clear hb2); (try clear hk); (try clear hi); have p179 : 0 ≤ (x8_2 : Int) := of_decide_eq_true (by first | (with_reducible assumption) | assumption); have q179 : x8_2 < (t162.length : Int) := of_decide_eq_true (by first | (with_reducible assumption) | assumption); obtain ⟨ad179, e179, hx179_0, hx179_1⟩ := zbr (Kd.zaT HO_7.out).2.2 x8_2 p179 q179; obtain rfl : ad173 = ad179 := (by injection e179); replace p179 := eq_true p179; replace q179 := eq_true q179) | (go_at_call 7; (with_reducible refine (zaX.calls _ _ l0 ((zaf l0 t160).f0) ((zaN t162 x8_2).f0) t180 t181 t184 t185 false _ ?side1 ?side2 A32.out).mono ?_); (case side1 => repeat (first | exact (Kd.zar HR0.out HB.out) | (with_reducible refine Kd.zaP ?_ _) | (with_reducible refine Kd.zaR ?_ _) | (with_reducible refine Kd.za1 ?_))); (case side2 => exact HC0.out); rintro e w48 ⟨v182, rfl, ho0, hb⟩; have n0_ := zaa.mk (Kd.zaE (by (with_reducible repeat (first | apply Kd.zaA | apply Kd.zaC | apply Kd.zaL)); exact HO_7.out) hb); have n1_ := zaa.mk (Kd.zbm ho0 (zax (by repeat (first | (with_reducible first | exact HB.out | apply zad | apply zab | apply zae) | exact HB.out)))); have n2_ := zaa.mk (zas (by repeat (first | (with_reducible first | exact HB.out | apply zad | apply zab | apply zae) | exact HB.out)) hb); clear HO_7; clear HB; have HO_7 := n0_; have HO183 := n1_; have HB := n2_; clear n0_ n1_ n2_; (try clear hb); (try clear hb2); (try clear hk); (try clear hi); (try clear ho0)) | ((with_reducible refine zbk (N := 14) rfl ?_); (try (refine zbj (by rfl) ?_; dsimp only)); refine zbl ?hg (N := 14) ?hd (cs := #[.string (⟨#[]⟩ : ByteArray), .slice none 0 0, .string (⟨#[]⟩ : ByteArray)]) (t := 26) ?hr ?_; (case hd => rfl); (case hg => rfl); (case hr => first | (go_simp; done) | (go_simp; rfl)); intro gb187 hg w49 hbox hb; have n0_ := zaa.mk (Kd.zaE (by (with_reducible repeat (first | apply Kd.zaA | apply Kd.zaC | apply Kd.zaL)); exact HO_7.out) hb); have n1_ := zaa.mk (Kd.zaE (by (with_reducible repeat (first | apply Kd.zaA | apply Kd.zaC | apply Kd.zaL)); exact HO183.out) hb); have n2_ := zaa.mk (zas (by repeat (first | (with_reducible first | exact HB.out | apply zad | apply zab | apply zae) | exact HB.out)) hb); have n3_ := zaa.mk (hbox); have n4_ := zaa.mk ((by rw [hg]; exact (zax (by repeat (first | (with_reducible first | exact HB.out | apply zad | apply zab | apply zae) | exact HB.out))) : w.heap.size ≤ gb187)); have n5_ := zaa.mk ((by rw [hg]; exact (zax (by repeat (first | (with_reducible first | exact HB.out | apply zad | apply zab | apply zae) | exact HB.out))) : w.heap.size ≤ gb187)); clear HO_7; clear HO183; clear HB; have HO_7 := n0_; have HO183 := n1_; have HB := n2_; have BK187 := n3_; have GW187 := n4_; have GE187 := n5_; clear n0_ n1_ n2_ n3_ n4_ n5_; clear hb hbox hg; have hcz50_0 : w49.cell? ⟨gb187, 0, none⟩ = some (.string (⟨#[]⟩ : ByteArray)) := (zaq BK187.out 0).trans rfl; have hcz50_1 : w49.cell? ⟨gb187, 1, none⟩ = some (.slice none 0 0) := (zaq BK187.out 1).trans rfl; have hcz50_2 : w49.cell? ⟨gb187, 2, none⟩ = some (.string (⟨#[]⟩ : ByteArray)) := (zaq BK187.out 2).trans rfl; have hfz50_0 := zak BK187.out 0; have hfz50_1 := zak BK187.out 1; have hfz50_2 := zak BK187.out 2; obtain ⟨Ao51, co51, eo51⟩ := Kd.zaZ HO183.out; subst eo51; have p188 : 0 ≤ (x8_2 : Int) := of_decide_eq_true (by first | (with_reducible assumption) | assumption); have q188 : x8_2 < (t162.length : Int) := of_decide_eq_true (by first | (with_reducible assumption) | assumption); obtain ⟨ad188, e188, hx188_0, hx188_1⟩ := zbr (Kd.zaT HO_7.out).2.2 x8_2 p188 q188; obtain rfl : ad173 = ad188 := (by injection e188); have hn188_0 : ad173.block ≠ gb187 := Kd.zbt (Kd.R_ne HO_7.out BK187.out d9); have hn188_1 : ad173.block ≠ gb187 := Kd.zbt (Kd.R_ne HO_7.out BK187.out d9); have hn188_2 : ad173.block ≠ gb187 := Kd.zbt (Kd.R_ne HO_7.out BK187.out d9); replace hx188_0 := (cell_far (p := ⟨gb187, 0, none⟩) (by first | (rw [add_block]; exact hn188_0) | (show (Addr.add _ _).block ≠ _; rw [add_block]; exact hn188_0) | exact hn188_0) (.string t180)).trans hx188_0; replace hx188_1 := (cell_far (p := ⟨gb187, 0, none⟩) (by first | (rw [add_block]; exact hn188_0) | (show (Addr.add _ _).block ≠ _; rw [add_block]; exact hn188_0) | exact hn188_0) (.string t180)).trans hx188_1; replace hx188_0 := (cell_far (p := ⟨gb187, 1, none⟩) (by first | (rw [add_block]; exact hn188_1) | (show (Addr.add _ _).block ≠ _; rw [add_block]; exact hn188_1) | exact hn188_1) (.slice Ao51 t181.length co51)).trans hx188_0; replace hx188_1 := (cell_far (p := ⟨gb187, 1, none⟩) (by first | (rw [add_block]; exact hn188_1) | (show (Addr.add _ _).block ≠ _; rw [add_block]; exact hn188_1) | exact hn188_1) (.slice Ao51 t181.length co51)).trans hx188_1; replace hx188_0 := (cell_far (p := ⟨gb187, 2, none⟩) (by first | (rw [add_block]; exact hn188_2) | (show (Addr.add _ _).block ≠ _; rw [add_block]; exact hn188_2) | exact hn188_2) (.string t184)).trans hx188_0; replace hx188_1 := (cell_far (p := ⟨gb187, 2, none⟩) (by first | (rw [add_block]; exact hn188_2) | (show (Addr.add _ _).block ≠ _; rw [add_block]; exact hn188_2) | exact hn188_2) (.string t184)).trans hx188_1; (try have hy188_0 := fun (n_ : Nat) => (show (((((w49.drewN n_).setCell ⟨gb187, 0, none⟩ (.string t180)).setCell ⟨gb187, 1, none⟩ (.slice Ao51 t181.length co51)).setCell ⟨gb187, 2, none⟩ (.string t184))).cell? _ = some _ from hx188_0)); (try have hy188_1 := fun (n_ : Nat) => (show (((((w49.drewN n_).setCell ⟨gb187, 0, none⟩ (.string t180)).setCell ⟨gb187, 1, none⟩ (.slice Ao51 t181.length co51)).setCell ⟨gb187, 2, none⟩ (.string t184))).cell? _ = some _ from hx188_1)); clear hn188_0; clear hn188_1; clear hn188_2; replace p188 := eq_true p188; replace q188 := eq_true q188))
                   have Tk1_ := zaa.mk True.intro
                   have Tk2_ := zaa.mk True.intro
                   have Tk3_ := zaa.mk True.intro
                   have Tk4_ := zaa.mk True.intro
                   have Tk5_ := zaa.mk True.intro
                   have Tk6_ := zaa.mk True.intro
                   repeat (go_quiet (first | (clear Tk1_; go_at_call 9; (with_reducible refine (zaQ.calls k3 _ _ l0 ((zaf l0 t160).f0) ((zaN t162 x8_2).f0) t174 true _ ?side1 ?side2 A30.out).mono ?_); (case side1 => repeat (first | exact (Kd.zar HR0.out HB.out) | (with_reducible refine Kd.zaP ?_ _) | (with_reducible refine Kd.zaR ?_ _) | (with_reducible refine Kd.za1 ?_))); (case side2 => exact HC0.out); rintro e w46 ⟨rfl, hb⟩; have n0_ := zaa.mk (Kd.zaE (by (with_reducible repeat (first | apply Kd.zaA | apply Kd.zaC | apply Kd.zaL)); exact HO_7.out) hb); have n1_ := zaa.mk (zas (by repeat (first | (with_reducible first | exact HB.out | apply zad | apply zab | apply zae) | exact HB.out)) hb); clear HO_7; clear HB; have HO_7 := n0_; have HB := n1_; clear n0_ n1_; (try clear hb); (try clear hb2); (try clear hk); (try clear hi); have p176 : 0 ≤ (x8_2 : Int) := of_decide_eq_true (by first | (with_reducible assumption) | assumption); have q176 : x8_2 < (t162.length : Int) := of_decide_eq_true (by first | (with_reducible assumption) | assumption); obtain ⟨ad176, e176, hx176_0, hx176_1⟩ := zbr (Kd.zaT HO_7.out).2.2 x8_2 p176 q176; obtain rfl : ad173 = ad176 := (by injection e176); replace p176 := eq_true p176; replace q176 := eq_true q176) | (clear Tk2_; go_at_call 8; (with_reducible refine (za3.calls _ _ l0 ((zaf l0 t160).f0) ((zaN t162 x8_2).f0) t177 t178 _ ?side1 ?side2 A31.out).mono ?_); (case side1 => repeat (first | exact (Kd.zar HR0.out HB.out) | (with_reducible refine Kd.zaP ?_ _) | (with_reducible refine Kd.zaR ?_ _) | (with_reducible refine Kd.za1 ?_))); (case side2 => exact HC0.out); rintro e w47 ⟨rfl, hb⟩; have n0_ := zaa.mk (Kd.zaE (by (with_reducible repeat (first | apply Kd.zaA | apply Kd.zaC | apply Kd.zaL)); exact HO_7.out) hb); have n1_ := zaa.mk (zas (by repeat (first | (with_reducible first | exact HB.out | apply zad | apply zab | apply zae) | exact HB.out)) hb); clear HO_7; clear HB; have HO_7 := n0_; have HB := n1_; clear n0_ n1_; (try clear hb); (try clear hb2); (try clear hk); (try clear hi); have p179 : 0 ≤ (x8_2 : Int) := of_decide_eq_true (by first | (with_reducible assumption) | assumption); have q179 : x8_2 < (t162.length : Int) := of_decide_eq_true (by first | (with_reducible assumption) | assumption); obtain ⟨ad179, e179, hx179_0, hx179_1⟩ := zbr (Kd.zaT HO_7.out).2.2 x8_2 p179 q179; obtain rfl : ad173 = ad179 := (by injection e179); replace p179 := eq_true p179; replace q179 := eq_true q179) | (clear Tk3_; go_at_call 7; (with_reducible refine (zaX.calls _ _ l0 ((zaf l0 t160).f0) ((zaN t162 x8_2).f0) t180 t181 t184 t185 false _ ?side1 ?side2 A32.out).mono ?_); (case side1 => repeat (first | exact (Kd.zar HR0.out HB.out) | (with_reducible refine Kd.zaP ?_ _) | (with_reducible refine Kd.zaR ?_ _) | (with_reducible refine Kd.za1 ?_))); (case side2 => exact HC0.out); rintro e w48 ⟨v182, rfl, ho0, hb⟩; have n0_ := zaa.mk (Kd.zaE (by (with_reducible repeat (first | apply Kd.zaA | apply Kd.zaC | apply Kd.zaL)); exact HO_7.out) hb); have n1_ := zaa.mk (Kd.zbm ho0 (zax (by repeat (first | (with_reducible first | exact HB.out | apply zad | apply zab | apply zae) | exact HB.out)))); have n2_ := zaa.mk (zas (by repeat (first | (with_reducible first | exact HB.out | apply zad | apply zab | apply zae) | exact HB.out)) hb); clear HO_7; clear HB; have HO_7 := n0_; have HO183 := n1_; have HB := n2_; clear n0_ n1_ n2_; (try clear hb); (try clear hb2); (try clear hk); (try clear hi); (try clear ho0)) | ((with_reducible refine zbk (N := 14) rfl ?_); (try (refine zbj (by rfl) ?_; dsimp only)); refine zbl ?hg (N := 14) ?hd (cs := #[.string (⟨#[]⟩ : ByteArray), .slice none 0 0, .string (⟨#[]⟩ : ByteArray)]) (t := 26) ?hr ?_; (case hd => rfl); (case hg => rfl); (case hr => first | (go_simp; done) | (go_simp; rfl)); intro gb187 hg w49 hbox hb; have n0_ := zaa.mk (Kd.zaE (by (with_reducible repeat (first | apply Kd.zaA | apply Kd.zaC | apply Kd.zaL)); exact HO_7.out) hb); have n1_ := zaa.mk (Kd.zaE (by (with_reducible repeat (first | apply Kd.zaA | apply Kd.zaC | apply Kd.zaL)); exact HO183.out) hb); have n2_ := zaa.mk (zas (by repeat (first | (with_reducible first | exact HB.out | apply zad | apply zab | apply zae) | exact HB.out)) hb); have n3_ := zaa.mk (hbox); have n4_ := zaa.mk ((by rw [hg]; exact (zax (by repeat (first | (with_reducible first | exact HB.out | apply zad | apply zab | apply zae) | exact HB.out))) : w.heap.size ≤ gb187)); have n5_ := zaa.mk ((by rw [hg]; exact (zax (by repeat (first | (with_reducible first | exact HB.out | apply zad | apply zab | apply zae) | exact HB.out))) : w.heap.size ≤ gb187)); clear HO_7; clear HO183; clear HB; have HO_7 := n0_; have HO183 := n1_; have HB := n2_; have BK187 := n3_; have GW187 := n4_; have GE187 := n5_; clear n0_ n1_ n2_ n3_ n4_ n5_; clear hb hbox hg; have hcz50_0 : w49.cell? ⟨gb187, 0, none⟩ = some (.string (⟨#[]⟩ : ByteArray)) := (zaq BK187.out 0).trans rfl; have hcz50_1 : w49.cell? ⟨gb187, 1, none⟩ = some (.slice none 0 0) := (zaq BK187.out 1).trans rfl; have hcz50_2 : w49.cell? ⟨gb187, 2, none⟩ = some (.string (⟨#[]⟩ : ByteArray)) := (zaq BK187.out 2).trans rfl; have hfz50_0 := zak BK187.out 0; have hfz50_1 := zak BK187.out 1; have hfz50_2 := zak BK187.out 2; obtain ⟨Ao51, co51, eo51⟩ := Kd.zaZ HO183.out; subst eo51; have p188 : 0 ≤ (x8_2 : Int) := of_decide_eq_true (by first | (with_reducible assumption) | assumption); have q188 : x8_2 < (t162.length : Int) := of_decide_eq_true (by first | (with_reducible assumption) | assumption); obtain ⟨ad188, e188, hx188_0, hx188_1⟩ := zbr (Kd.zaT HO_7.out).2.2 x8_2 p188 q188; obtain rfl : ad173 = ad188 := (by injection e188); have hn188_0 : ad173.block ≠ gb187 := Kd.zbt (Kd.R_ne HO_7.out BK187.out d9); have hn188_1 : ad173.block ≠ gb187 := Kd.zbt (Kd.R_ne HO_7.out BK187.out d9); have hn188_2 : ad173.block ≠ gb187 := Kd.zbt (Kd.R_ne HO_7.out BK187.out d9); replace hx188_0 := (cell_far (p := ⟨gb187, 0, none⟩) (by first | (rw [add_block]; exact hn188_0) | (show (Addr.add _ _).block ≠ _; rw [add_block]; exact hn188_0) | exact hn188_0) (.string t180)).trans hx188_0; replace hx188_1 := (cell_far (p := ⟨gb187, 0, none⟩) (by first | (rw [add_block]; exact hn188_0) | (show (Addr.add _ _).block ≠ _; rw [add_block]; exact hn188_0) | exact hn188_0) (.string t180)).trans hx188_1; replace hx188_0 := (cell_far (p := ⟨gb187, 1, none⟩) (by first | (rw [add_block]; exact hn188_1) | (show (Addr.add _ _).block ≠ _; rw [add_block]; exact hn188_1) | exact hn188_1) (.slice Ao51 t181.length co51)).trans hx188_0; replace hx188_1 := (cell_far (p := ⟨gb187, 1, none⟩) (by first | (rw [add_block]; exact hn188_1) | (show (Addr.add _ _).block ≠ _; rw [add_block]; exact hn188_1) | exact hn188_1) (.slice Ao51 t181.length co51)).trans hx188_1; replace hx188_0 := (cell_far (p := ⟨gb187, 2, none⟩) (by first | (rw [add_block]; exact hn188_2) | (show (Addr.add _ _).block ≠ _; rw [add_block]; exact hn188_2) | exact hn188_2) (.string t184)).trans hx188_0; replace hx188_1 := (cell_far (p := ⟨gb187, 2, none⟩) (by first | (rw [add_block]; exact hn188_2) | (show (Addr.add _ _).block ≠ _; rw [add_block]; exact hn188_2) | exact hn188_2) (.string t184)).trans hx188_1; (try have hy188_0 := fun (n_ : Nat) => (show (((((w49.drewN n_).setCell ⟨gb187, 0, none⟩ (.string t180)).setCell ⟨gb187, 1, none⟩ (.slice Ao51 t181.length co51)).setCell ⟨gb187, 2, none⟩ (.string t184))).cell? _ = some _ from hx188_0)); (try have hy188_1 := fun (n_ : Nat) => (show (((((w49.drewN n_).setCell ⟨gb187, 0, none⟩ (.string t180)).setCell ⟨gb187, 1, none⟩ (.slice Ao51 t181.length co51)).setCell ⟨gb187, 2, none⟩ (.string t184))).cell? _ = some _ from hx188_1)); clear hn188_0; clear hn188_1; clear hn188_2; replace p188 := eq_true p188; replace q188 := eq_true q188)); try go_wp2_with (first | (clear Tk4_; go_at_call 9; (with_reducible refine (zaQ.calls k3 _ _ l0 ((zaf l0 t160).f0) ((zaN t162 x8_2).f0) t174 true _ ?side1 ?side2 A30.out).mono ?_); (case side1 => repeat (first | exact (Kd.zar HR0.out HB.out) | (with_reducible refine Kd.zaP ?_ _) | (with_reducible refine Kd.zaR ?_ _) | (with_reducible refine Kd.za1 ?_))); (case side2 => exact HC0.out); rintro e w46 ⟨rfl, hb⟩; have n0_ := zaa.mk (Kd.zaE (by (with_reducible repeat (first | apply Kd.zaA | apply Kd.zaC | apply Kd.zaL)); exact HO_7.out) hb); have n1_ := zaa.mk (zas (by repeat (first | (with_reducible first | exact HB.out | apply zad | apply zab | apply zae) | exact HB.out)) hb); clear HO_7; clear HB; have HO_7 := n0_; have HB := n1_; clear n0_ n1_; (try clear hb); (try clear hb2); (try clear hk); (try clear hi); have p176 : 0 ≤ (x8_2 : Int) := of_decide_eq_true (by first | (with_reducible assumption) | assumption); have q176 : x8_2 < (t162.length : Int) := of_decide_eq_true (by first | (with_reducible assumption) | assumption); obtain ⟨ad176, e176, hx176_0, hx176_1⟩ := zbr (Kd.zaT HO_7.out).2.2 x8_2 p176 q176; obtain rfl : ad173 = ad176 := (by injection e176); replace p176 := eq_true p176; replace q176 := eq_true q176) | (clear Tk5_; go_at_call 8; (with_reducible refine (za3.calls _ _ l0 ((zaf l0 t160).f0) ((zaN t162 x8_2).f0) t177 t178 _ ?side1 ?side2 A31.out).mono ?_); (case side1 => repeat (first | exact (Kd.zar HR0.out HB.out) | (with_reducible refine Kd.zaP ?_ _) | (with_reducible refine Kd.zaR ?_ _) | (with_reducible refine Kd.za1 ?_))); (case side2 => exact HC0.out); rintro e w47 ⟨rfl, hb⟩; have n0_ := zaa.mk (Kd.zaE (by (with_reducible repeat (first | apply Kd.zaA | apply Kd.zaC | apply Kd.zaL)); exact HO_7.out) hb); have n1_ := zaa.mk (zas (by repeat (first | (with_reducible first | exact HB.out | apply zad | apply zab | apply zae) | exact HB.out)) hb); clear HO_7; clear HB; have HO_7 := n0_; have HB := n1_; clear n0_ n1_; (try clear hb); (try clear hb2); (try clear hk); (try clear hi); have p179 : 0 ≤ (x8_2 : Int) := of_decide_eq_true (by first | (with_reducible assumption) | assumption); have q179 : x8_2 < (t162.length : Int) := of_decide_eq_true (by first | (with_reducible assumption) | assumption); obtain ⟨ad179, e179, hx179_0, hx179_1⟩ := zbr (Kd.zaT HO_7.out).2.2 x8_2 p179 q179; obtain rfl : ad173 = ad179 := (by injection e179); replace p179 := eq_true p179; replace q179 := eq_true q179) | (clear Tk6_; go_at_call 7; (with_reducible refine (zaX.calls _ _ l0 ((zaf l0 t160).f0) ((zaN t162 x8_2).f0) t180 t181 t184 t185 false _ ?side1 ?side2 A32.out).mono ?_); (case side1 => repeat (first | exact (Kd.zar HR0.out HB.out) | (with_reducible refine Kd.zaP ?_ _) | (with_reducible refine Kd.zaR ?_ _) | (with_reducible refine Kd.za1 ?_))); (case side2 => exact HC0.out); rintro e w48 ⟨v182, rfl, ho0, hb⟩; have n0_ := zaa.mk (Kd.zaE (by (with_reducible repeat (first | apply Kd.zaA | apply Kd.zaC | apply Kd.zaL)); exact HO_7.out) hb); have n1_ := zaa.mk (Kd.zbm ho0 (zax (by repeat (first | (with_reducible first | exact HB.out | apply zad | apply zab | apply zae) | exact HB.out)))); have n2_ := zaa.mk (zas (by repeat (first | (with_reducible first | exact HB.out | apply zad | apply zab | apply zae) | exact HB.out)) hb); clear HO_7; clear HB; have HO_7 := n0_; have HO183 := n1_; have HB := n2_; clear n0_ n1_ n2_; (try clear hb); (try clear hb2); (try clear hk); (try clear hi); (try clear ho0)) | ((with_reducible refine zbk (N := 14) rfl ?_); (try (refine zbj (by rfl) ?_; dsimp only)); refine zbl ?hg (N := 14) ?hd (cs := #[.string (⟨#[]⟩ : ByteArray), .slice none 0 0, .string (⟨#[]⟩ : ByteArray)]) (t := 26) ?hr ?_; (case hd => rfl); (case hg => rfl); (case hr => first | (go_simp; done) | (go_simp; rfl)); intro gb187 hg w49 hbox hb; have n0_ := zaa.mk (Kd.zaE (by (with_reducible repeat (first | apply Kd.zaA | apply Kd.zaC | apply Kd.zaL)); exact HO_7.out) hb); have n1_ := zaa.mk (Kd.zaE (by (with_reducible repeat (first | apply Kd.zaA | apply Kd.zaC | apply Kd.zaL)); exact HO183.out) hb); have n2_ := zaa.mk (zas (by repeat (first | (with_reducible first | exact HB.out | apply zad | apply zab | apply zae) | exact HB.out)) hb); have n3_ := zaa.mk (hbox); have n4_ := zaa.mk ((by rw [hg]; exact (zax (by repeat (first | (with_reducible first | exact HB.out | apply zad | apply zab | apply zae) | exact HB.out))) : w.heap.size ≤ gb187)); have n5_ := zaa.mk ((by rw [hg]; exact (zax (by repeat (first | (with_reducible first | exact HB.out | apply zad | apply zab | apply zae) | exact HB.out))) : w.heap.size ≤ gb187)); clear HO_7; clear HO183; clear HB; have HO_7 := n0_; have HO183 := n1_; have HB := n2_; have BK187 := n3_; have GW187 := n4_; have GE187 := n5_; clear n0_ n1_ n2_ n3_ n4_ n5_; clear hb hbox hg; have hcz50_0 : w49.cell? ⟨gb187, 0, none⟩ = some (.string (⟨#[]⟩ : ByteArray)) := (zaq BK187.out 0).trans rfl; have hcz50_1 : w49.cell? ⟨gb187, 1, none⟩ = some (.slice none 0 0) := (zaq BK187.out 1).trans rfl; have hcz50_2 : w49.cell? ⟨gb187, 2, none⟩ = some (.string (⟨#[]⟩ : ByteArray)) := (zaq BK187.out 2).trans rfl; have hfz50_0 := zak BK187.out 0; have hfz50_1 := zak BK187.out 1; have hfz50_2 := zak BK187.out 2; obtain ⟨Ao51, co51, eo51⟩ := Kd.zaZ HO183.out; subst eo51; have p188 : 0 ≤ (x8_2 : Int) := of_decide_eq_true (by first | (with_reducible assumption) | assumption); have q188 : x8_2 < (t162.length : Int) := of_decide_eq_true (by first | (with_reducible assumption) | assumption); obtain ⟨ad188, e188, hx188_0, hx188_1⟩ := zbr (Kd.zaT HO_7.out).2.2 x8_2 p188 q188; obtain rfl : ad173 = ad188 := (by injection e188); have hn188_0 : ad173.block ≠ gb187 := Kd.zbt (Kd.R_ne HO_7.out BK187.out d9); have hn188_1 : ad173.block ≠ gb187 := Kd.zbt (Kd.R_ne HO_7.out BK187.out d9); have hn188_2 : ad173.block ≠ gb187 := Kd.zbt (Kd.R_ne HO_7.out BK187.out d9); replace hx188_0 := (cell_far (p := ⟨gb187, 0, none⟩) (by first | (rw [add_block]; exact hn188_0) | (show (Addr.add _ _).block ≠ _; rw [add_block]; exact hn188_0) | exact hn188_0) (.string t180)).trans hx188_0; replace hx188_1 := (cell_far (p := ⟨gb187, 0, none⟩) (by first | (rw [add_block]; exact hn188_0) | (show (Addr.add _ _).block ≠ _; rw [add_block]; exact hn188_0) | exact hn188_0) (.string t180)).trans hx188_1; replace hx188_0 := (cell_far (p := ⟨gb187, 1, none⟩) (by first | (rw [add_block]; exact hn188_1) | (show (Addr.add _ _).block ≠ _; rw [add_block]; exact hn188_1) | exact hn188_1) (.slice Ao51 t181.length co51)).trans hx188_0; replace hx188_1 := (cell_far (p := ⟨gb187, 1, none⟩) (by first | (rw [add_block]; exact hn188_1) | (show (Addr.add _ _).block ≠ _; rw [add_block]; exact hn188_1) | exact hn188_1) (.slice Ao51 t181.length co51)).trans hx188_1; replace hx188_0 := (cell_far (p := ⟨gb187, 2, none⟩) (by first | (rw [add_block]; exact hn188_2) | (show (Addr.add _ _).block ≠ _; rw [add_block]; exact hn188_2) | exact hn188_2) (.string t184)).trans hx188_0; replace hx188_1 := (cell_far (p := ⟨gb187, 2, none⟩) (by first | (rw [add_block]; exact hn188_2) | (show (Addr.add _ _).block ≠ _; rw [add_block]; exact hn188_2) | exact hn188_2) (.string t184)).trans hx188_1; (try have hy188_0 := fun (n_ : Nat) => (show (((((w49.drewN n_).setCell ⟨gb187, 0, none⟩ (.string t180)).setCell ⟨gb187, 1, none⟩ (.slice Ao51 t181.length co51)).setCell ⟨gb187, 2, none⟩ (.string t184))).cell? _ = some _ from hx188_0)); (try have hy188_1 := fun (n_ : Nat) => (show (((((w49.drewN n_).setCell ⟨gb187, 0, none⟩ (.string t180)).setCell ⟨gb187, 1, none⟩ (.slice Ao51 t181.length co51)).setCell ⟨gb187, 2, none⟩ (.string t184))).cell? _ = some _ from hx188_1)); clear hn188_0; clear hn188_1; clear hn188_2; replace p188 := eq_true p188; replace q188 := eq_true q188)))
                   go_roundg k3
                   case measure => have := HJ3.out; have := HK2.out; have := HK3.out; omega
                   case rel => exact ⟨(wrap64 (x8_2 + 1)), (by first | rfl | (simp; done) | (simp [*]; done)), H', ⟨by have := HJ3.out; have := HK2.out; have := HK3.out; omega⟩, ⟨by (with_reducible repeat (first | apply Kd.zaA | apply Kd.zaC | apply Kd.zaL)); exact Kd.zaS (Kd.R_far (p := ⟨gb187, 2, none⟩) (Kd.R_far (p := ⟨gb187, 1, none⟩) (Kd.R_far (p := ⟨gb187, 0, none⟩) (Kd.zce HO_7.out BK187.out d9) (fun _ hk => hk.2) (.string t180)) (fun _ hk => hk.2) (.slice Ao51 t181.length co51)) (fun _ hk => hk.2) (.string t184)) (fun _ hk => trivial)⟩, ⟨by repeat (first | (with_reducible first | exact HB.out | apply zad | apply zab | apply zae | refine zao ?_ GE187.out) | exact HB.out)⟩⟩
               ·
                rw [if_neg c34] at H
                exact absurd H s9
              ·
               replace c33 := Bool.eq_false_iff.mpr c33
               subst c33
               have H1 : (none) = some r := by rw [if_neg (show ¬ (false = true) by decide)] at H; exact H
               clear H
               have H := H1
               clear H1
               exact absurd H s9
             ·
              rw [if_neg c29] at H
              exact absurd H s9
            ·
             rw [if_neg c28] at H
             exact absurd H s9
        ·
         rw [if_neg c20] at H
         have c20b0 : decide (x8_2 < (t162.length : Int)) = false := decide_eq_false c20
         clear c20
         by_cases c52 : t156 = true
         ·
          subst c52
          have H1 : ((zaU.f l0 ((zaf l0 t160).f0)).bind fun t165 => ((zaw.f l0 ((zaf l0 t160).f0)).bind fun t168 => (some ((t162.length : Int) == (wrap64 ((t165.length : Int) + (t168.length : Int))))))) = some r := by rw [if_pos rfl] at H; exact H
          clear H
          have H := H1
          clear H1
          replace H := Option.bind_eq_some_iff.mp H
          obtain ⟨t165, A530, H⟩ := H
          replace H : ((zaw.f l0 ((zaf l0 t160).f0)).bind fun t168 => (some ((t162.length : Int) == (wrap64 ((t165.length : Int) + (t168.length : Int)))))) = some r := H
          have A53 := zaa.mk A530
          clear A530
          replace H := Option.bind_eq_some_iff.mp H
          obtain ⟨t168, A540, H⟩ := H
          replace H : (some ((t162.length : Int) == (wrap64 ((t165.length : Int) + (t168.length : Int))))) = some r := H
          have A54 := zaa.mk A540
          clear A540
          obtain rfl := Option.some.inj H
          obtain ⟨Ao55, co55, eo55⟩ := Kd.zaZ HO_7.out
          subst eo55
          go_wp2_with (first | (go_at_call 12; (with_reducible refine (zaU.calls _ _ l0 ((zaf l0 t160).f0) t165 _ ?side1 ?side2 A53.out).mono ?_); (case side1 => repeat (first | exact (Kd.zar HR0.out HB.out) | (with_reducible refine Kd.zaP ?_ _) | (with_reducible refine Kd.zaR ?_ _) | (with_reducible refine Kd.za1 ?_))); (case side2 => exact HC0.out); rintro e w56 ⟨v166, rfl, ho0, hb⟩; have n0_ := zaa.mk (Kd.zaE (by (with_reducible repeat (first | apply Kd.zaA | apply Kd.zaC | apply Kd.zaL)); exact HO_7.out) hb); have n1_ := zaa.mk (Kd.zbm ho0 (zax (by repeat (first | (with_reducible first | exact HB.out | apply zad | apply zab | apply zae) | exact HB.out)))); have n2_ := zaa.mk (zas (by repeat (first | (with_reducible first | exact HB.out | apply zad | apply zab | apply zae) | exact HB.out)) hb); clear HO_7; clear HB; have HO_7 := n0_; have HO167 := n1_; have HB := n2_; clear n0_ n1_ n2_; (try clear hb); (try clear hb2); (try clear hk); (try clear hi); (try clear ho0); obtain ⟨Ao57, co57, eo57⟩ := Kd.zaZ HO167.out; subst eo57) | (go_at_call 20; (with_reducible refine (zaw.calls _ _ l0 ((zaf l0 t160).f0) t168 _ ?side1 ?side2 A54.out).mono ?_); (case side1 => repeat (first | exact (Kd.zar HR0.out HB.out) | (with_reducible refine Kd.zaP ?_ _) | (with_reducible refine Kd.zaR ?_ _) | (with_reducible refine Kd.za1 ?_))); (case side2 => exact HC0.out); rintro e w58 ⟨v169, rfl, ho0, hb⟩; have n0_ := zaa.mk (Kd.zaE (by (with_reducible repeat (first | apply Kd.zaA | apply Kd.zaC | apply Kd.zaL)); exact HO_7.out) hb); have n1_ := zaa.mk (Kd.zaE (by (with_reducible repeat (first | apply Kd.zaA | apply Kd.zaC | apply Kd.zaL)); exact HO167.out) hb); have n2_ := zaa.mk (Kd.zdG (Kd.ze6 ho0 (Kd.R_lt (by (with_reducible repeat (first | apply Kd.zaA | apply Kd.zaC | apply Kd.zaL)); exact HO167.out))) (zax (by repeat (first | (with_reducible first | exact HB.out | apply zad | apply zab | apply zae) | exact HB.out)))); have n3_ := zaa.mk (zas (by repeat (first | (with_reducible first | exact HB.out | apply zad | apply zab | apply zae) | exact HB.out)) hb); clear HO_7; clear HO167; clear HB; have HO_7 := n0_; have HO167 := n1_; have HO170 := n2_; have HB := n3_; clear n0_ n1_ n2_ n3_; (try clear hb); (try clear hb2); (try clear hk); (try clear hi); (try clear ho0); obtain ⟨Ao59, co59, eo59⟩ := Kd.zdy HO170.out; subst eo59))
          have Tk1_ := zaa.mk True.intro
          have Tk2_ := zaa.mk True.intro
          have Tk3_ := zaa.mk True.intro
          have Tk4_ := zaa.mk True.intro
          repeat (go_quiet (first | (clear Tk1_; go_at_call 12; (with_reducible refine (zaU.calls _ _ l0 ((zaf l0 t160).f0) t165 _ ?side1 ?side2 A53.out).mono ?_); (case side1 => repeat (first | exact (Kd.zar HR0.out HB.out) | (with_reducible refine Kd.zaP ?_ _) | (with_reducible refine Kd.zaR ?_ _) | (with_reducible refine Kd.za1 ?_))); (case side2 => exact HC0.out); rintro e w56 ⟨v166, rfl, ho0, hb⟩; have n0_ := zaa.mk (Kd.zaE (by (with_reducible repeat (first | apply Kd.zaA | apply Kd.zaC | apply Kd.zaL)); exact HO_7.out) hb); have n1_ := zaa.mk (Kd.zbm ho0 (zax (by repeat (first | (with_reducible first | exact HB.out | apply zad | apply zab | apply zae) | exact HB.out)))); have n2_ := zaa.mk (zas (by repeat (first | (with_reducible first | exact HB.out | apply zad | apply zab | apply zae) | exact HB.out)) hb); clear HO_7; clear HB; have HO_7 := n0_; have HO167 := n1_; have HB := n2_; clear n0_ n1_ n2_; (try clear hb); (try clear hb2); (try clear hk); (try clear hi); (try clear ho0); obtain ⟨Ao57, co57, eo57⟩ := Kd.zaZ HO167.out; subst eo57) | (clear Tk2_; go_at_call 20; (with_reducible refine (zaw.calls _ _ l0 ((zaf l0 t160).f0) t168 _ ?side1 ?side2 A54.out).mono ?_); (case side1 => repeat (first | exact (Kd.zar HR0.out HB.out) | (with_reducible refine Kd.zaP ?_ _) | (with_reducible refine Kd.zaR ?_ _) | (with_reducible refine Kd.za1 ?_))); (case side2 => exact HC0.out); rintro e w58 ⟨v169, rfl, ho0, hb⟩; have n0_ := zaa.mk (Kd.zaE (by (with_reducible repeat (first | apply Kd.zaA | apply Kd.zaC | apply Kd.zaL)); exact HO_7.out) hb); have n1_ := zaa.mk (Kd.zaE (by (with_reducible repeat (first | apply Kd.zaA | apply Kd.zaC | apply Kd.zaL)); exact HO167.out) hb); have n2_ := zaa.mk (Kd.zdG (Kd.ze6 ho0 (Kd.R_lt (by (with_reducible repeat (first | apply Kd.zaA | apply Kd.zaC | apply Kd.zaL)); exact HO167.out))) (zax (by repeat (first | (with_reducible first | exact HB.out | apply zad | apply zab | apply zae) | exact HB.out)))); have n3_ := zaa.mk (zas (by repeat (first | (with_reducible first | exact HB.out | apply zad | apply zab | apply zae) | exact HB.out)) hb); clear HO_7; clear HO167; clear HB; have HO_7 := n0_; have HO167 := n1_; have HO170 := n2_; have HB := n3_; clear n0_ n1_ n2_ n3_; (try clear hb); (try clear hb2); (try clear hk); (try clear hi); (try clear ho0); obtain ⟨Ao59, co59, eo59⟩ := Kd.zdy HO170.out; subst eo59)); try go_wp2_with (first | (clear Tk3_; go_at_call 12; (with_reducible refine (zaU.calls _ _ l0 ((zaf l0 t160).f0) t165 _ ?side1 ?side2 A53.out).mono ?_); (case side1 => repeat (first | exact (Kd.zar HR0.out HB.out) | (with_reducible refine Kd.zaP ?_ _) | (with_reducible refine Kd.zaR ?_ _) | (with_reducible refine Kd.za1 ?_))); (case side2 => exact HC0.out); rintro e w56 ⟨v166, rfl, ho0, hb⟩; have n0_ := zaa.mk (Kd.zaE (by (with_reducible repeat (first | apply Kd.zaA | apply Kd.zaC | apply Kd.zaL)); exact HO_7.out) hb); have n1_ := zaa.mk (Kd.zbm ho0 (zax (by repeat (first | (with_reducible first | exact HB.out | apply zad | apply zab | apply zae) | exact HB.out)))); have n2_ := zaa.mk (zas (by repeat (first | (with_reducible first | exact HB.out | apply zad | apply zab | apply zae) | exact HB.out)) hb); clear HO_7; clear HB; have HO_7 := n0_; have HO167 := n1_; have HB := n2_; clear n0_ n1_ n2_; (try clear hb); (try clear hb2); (try clear hk); (try clear hi); (try clear ho0); obtain ⟨Ao57, co57, eo57⟩ := Kd.zaZ HO167.out; subst eo57) | (clear Tk4_; go_at_call 20; (with_reducible refine (zaw.calls _ _ l0 ((zaf l0 t160).f0) t168 _ ?side1 ?side2 A54.out).mono ?_); (case side1 => repeat (first | exact (Kd.zar HR0.out HB.out) | (with_reducible refine Kd.zaP ?_ _) | (with_reducible refine Kd.zaR ?_ _) | (with_reducible refine Kd.za1 ?_))); (case side2 => exact HC0.out); rintro e w58 ⟨v169, rfl, ho0, hb⟩; have n0_ := zaa.mk (Kd.zaE (by (with_reducible repeat (first | apply Kd.zaA | apply Kd.zaC | apply Kd.zaL)); exact HO_7.out) hb); have n1_ := zaa.mk (Kd.zaE (by (with_reducible repeat (first | apply Kd.zaA | apply Kd.zaC | apply Kd.zaL)); exact HO167.out) hb); have n2_ := zaa.mk (Kd.zdG (Kd.ze6 ho0 (Kd.R_lt (by (with_reducible repeat (first | apply Kd.zaA | apply Kd.zaC | apply Kd.zaL)); exact HO167.out))) (zax (by repeat (first | (with_reducible first | exact HB.out | apply zad | apply zab | apply zae) | exact HB.out)))); have n3_ := zaa.mk (zas (by repeat (first | (with_reducible first | exact HB.out | apply zad | apply zab | apply zae) | exact HB.out)) hb); clear HO_7; clear HO167; clear HB; have HO_7 := n0_; have HO167 := n1_; have HO170 := n2_; have HB := n3_; clear n0_ n1_ n2_ n3_; (try clear hb); (try clear hb2); (try clear hk); (try clear hi); (try clear ho0); obtain ⟨Ao59, co59, eo59⟩ := Kd.zdy HO170.out; subst eo59)))
          go_ret
          exact ⟨by first | rfl | (simp [za5, za4] <;> rfl) | (simp [*, za5, za4] <;> rfl), by repeat (first | (with_reducible first | exact HB.out | apply zad | apply zab | apply zae) | exact HB.out)⟩
         ·
          replace c52 := Bool.eq_false_iff.mpr c52
          subst c52
          have H1 : (none) = some r := by rw [if_neg (show ¬ (false = true) by decide)] at H; exact H
          clear H
          have H := H1
          clear H1
          exact absurd H s9
     ·
      rw [if_neg c17] at H
      exact absurd H s9
    ·
     rw [if_neg c16] at H
     exact absurd H s9
end Go.Proofs.YtgcfmllgomikoaaDoor.PAll
end

section
namespace Go.Proofs.YtgcfmllgomikoaaDoor.PAll
open Go.RowKit Go.Proofs.YtgcfmllgomikoaaDoorW.PrintWords Go.Proofs.YtgcfmllgomikoaaDoorW.PrintLast Go.Proofs.YtgcfmllgomikoaaDoorOpen
def chaperonlaw05_TableOnce.Pure : Prop := ∀ (l0 : List (S45)) (a1 : Int), l0.length ≤ maxLen → (∀ x ∈ l0, wf45 x) → (Lit.int .i64 a1).wf = true → ∃ k, chaperonlaw05_TableOnce.f k l0 a1 = some true
end Go.Proofs.YtgcfmllgomikoaaDoor.PAll
end

section
namespace Go.Proofs.YtgcfmllgomikoaaDoorEv
def Evn {α : Type} (g : Nat → Option α) (v : α) : Prop := ∃ K, ∀ k, K ≤ k → g k = some v
section
variable {α β : Type}
theorem Evn.ret (v : α) : Evn (fun _ => some v) v := ⟨0, fun _ _ => rfl⟩
theorem Evn.bind {g : Nat → Option α} {h : Nat → α → Option β} {a : α} {b : β} (hg : Evn g a) (hh : Evn (fun k => h k a) b) : Evn (fun k => (g k).bind fun x => h k x) b := by
 obtain ⟨K1, h1⟩ := hg
 obtain ⟨K2, h2⟩ := hh
 exact ⟨max K1 K2, fun k hk => by show (g k).bind (fun x => h k x) = some b; rw [h1 k o9]; exact h2 k o9⟩
theorem Evn.cbind {a : Option α} {h : Nat → α → Option β} {v : α} {b : β} (ha : a = some v) (hh : Evn (fun k => h k v) b) : Evn (fun k => a.bind fun x => h k x) b := by
 subst ha
 exact hh
theorem Evn.succ {g : Nat → Option α} {v : α} (h : Evn (fun k => g (k + 1)) v) : Evn g v := by
 obtain ⟨K, h⟩ := h
 exact ⟨K + 1, fun k hk => by
  obtain ⟨j, rfl⟩ : ∃ j, k = j + 1 := ⟨k - 1, by omega⟩
  exact h j o9⟩
theorem Evn.congr {g g' : Nat → Option α} {v : α} (e : ∀ k, g k = g' k) (h : Evn g' v) : Evn g v := by
 obtain ⟨K, h⟩ := h
 exact ⟨K, fun k hk => (e k).trans (h k hk)⟩
theorem Evn.pos {p : Prop} [Decidable p] {g h : Nat → Option α} {v : α} (hp : p) (hg : Evn g v) : Evn (fun k => if p then g k else h k) v := Evn.congr (fun k => if_pos hp) hg
theorem Evn.neg {p : Prop} [Decidable p] {g h : Nat → Option α} {v : α} (hp : ¬ p) (hg : Evn h v) : Evn (fun k => if p then g k else h k) v := Evn.congr (fun k => if_neg hp) hg
theorem Evn.ex {g : Nat → Option α} {v : α} (h : Evn g v) : ∃ k, g k = some v := by
 obtain ⟨K, h⟩ := h
 exact ⟨K, h K (Nat.le_refl _)⟩
theorem Evn.val {g : Nat → Option α} {v v' : α} (h : Evn g v) (e : v = v') : Evn g v' := e ▸ h
end
end Go.Proofs.YtgcfmllgomikoaaDoorEv
end

section
namespace Go.Proofs.YtgcfmllgomikoaaDoor.Pure
open Go.RowKit Go.Proofs.YtgcfmllgomikoaaDoor.PAll Go.Proofs.YtgcfmllgomikoaaDoorW.PrintWords Go.Proofs.YtgcfmllgomikoaaDoorW.PrintLast Go.Proofs.YtgcfmllgomikoaaDoorEv Go.Proofs.YtgcfmllgomikoaaDoorTab Go.Proofs.YtgcfmllgomikoaaDoorWords
abbrev Cl := S45
abbrev Mb := S42
abbrev Vr := S35
abbrev Sg := S26
theorem w1 {i n : Nat} (h : i < n) (hn : n < 4398046511104) : wrap64 ((i : Int) + 1) = ((i + 1 : Nat) : Int) := by unfold wrap64; omega
theorem rdV (l : List (S35)) (i : Nat) (h : i < l.length) : zaI l (i : Int) = l[i] := by
 unfold zaI
 rw [Int.toNat_natCast, List.getD_eq_getElem?_getD, List.getElem?_eq_getElem h]; rfl
theorem rdS (l : List (S26)) (i : Nat) (h : i < l.length) : zaF l (i : Int) = l[i] := by
 unfold zaF
 rw [Int.toNat_natCast, List.getD_eq_getElem?_getD, List.getElem?_eq_getElem h]; rfl
theorem rdM (l : List Mb) (i : Nat) (h : i < l.length) : zaN l (i : Int) = l[i] := by
 unfold zaN
 rw [Int.toNat_natCast, List.getD_eq_getElem?_getD, List.getElem?_eq_getElem h]; rfl
structure TB (t : List Cl) : Prop where
 len : t.length ≤ 9
 fs : ∀ c ∈ t, c.f2.length ≤ 7
 ms : ∀ c ∈ t, c.f3.length ≤ 7
 ps : ∀ c ∈ t, ∀ m ∈ c.f3, m.f1.length ≤ 10
theorem zcs (t : List Cl) : ∀ (k : Nat) (pre : List Nat) (nm : ByteArray), (lineP t k pre nm).length ≤ k
 | 0, _, _ => by simp [lineP]
 | k + 1, pre, nm => by
  unfold lineP
  split
  ·
   simp
  ·
   split
   ·
    simp
   ·
    have := zcs t k
    simp only [List.length_cons]
    have h1 := this (pre ++ [(idxC nm t 0).toNat]) (clsAt t (idxC nm t 0).toNat).f1
    omega
theorem zdA (t : List Cl) (p : Nat) (h : p < t.length) : clsAt t p ∈ t := by
 unfold clsAt zaf
 rw [Int.toNat_natCast, List.getD_eq_getElem?_getD, List.getElem?_eq_getElem h]
 exact List.getElem_mem h
theorem zek {α : Type} (f : Nat → List α) (b : Nat) : ∀ (l : List Nat), (∀ p ∈ l, (f p).length ≤ b) → (l.flatMap f).length ≤ l.length * b
 | [], _ => by simp
 | x :: r, h => by
  have h1 := zek f b r (fun p hp => h p (List.mem_cons_of_mem _ hp))
  have h2 := h x List.mem_cons_self
  simp only [List.flatMap_cons, List.length_append, List.length_cons]
  rw [Nat.succ_mul]; omega
section
variable {t : List Cl} (ht : TB t)
include ht
theorem TB.line (c : ByteArray) : (lineL t c).length ≤ 10 := by
 have := zcs t (t.length + 1) [] c
 have h := ht.len
 unfold lineL; omega
theorem TB.fields (c : ByteArray) : (za2 t c).length ≤ 70 := by
 have h1 := ht.line c
 have h2 := zek (fun p => (clsAt t p).f2) 7 (lineL t c).reverse (fun p hp => ht.fs _ (zdA t p (zbH t _ _ _ _ (List.mem_reverse.1 hp))))
 rw [List.length_reverse] at h2
 exact Nat.le_trans h2 o9
theorem TB.all (c : ByteArray) : zaw.all t c ≤ 70 := by
 have h1 := ht.line c
 have h2 := zek (fun p => (clsAt t p).f3) 7 (lineL t c).reverse (fun p hp => ht.ms _ (zdA t p (zbH t _ _ _ _ (List.mem_reverse.1 hp))))
 rw [List.length_reverse] at h2
 exact Nat.le_trans h2 o9
theorem TB.small : zaw.small t = true := by
 unfold zaw.small
 have h := ht.len
 simp only [Bool.and_eq_true, decide_eq_true_eq, List.all_eq_true]
 exact ⟨by omega, fun x hx => ⟨by have := ht.ms x hx; omega, fun m hm => by have := ht.ps x hx m hm; omega⟩⟩
end
theorem zd8 (out : List (S26)) (m : S26) : (putS out m).length ≤ out.length + 1 := by
 unfold putS
 split <;> simp
theorem zfg : ∀ (l out : List (S26)), (l.foldl putS out).length ≤ out.length + l.length
 | [], out => by simp
 | m :: r, out => by
  have h1 := zfg r (putS out m)
  have h2 := zd8 out m
  simp only [List.foldl_cons, List.length_cons]; omega
theorem TB.meths {t : List Cl} (ht : TB t) (c : ByteArray) : (zbA t c).length ≤ 70 := by
 have h1 := zfg ((lineL t c).reverse.flatMap fun p => (clsAt t p).f3) []
 have h2 := ht.all c
 unfold zaw.all at h2
 unfold zbA zeu
 simp only [List.length_nil] at h1; omega
def mem (t : List Cl) (c : ByteArray) : List Mb := (za2 t c).map (fun v => ⟨v.f0, -1⟩) ++ (zbA t c).map (fun m => ⟨m.f0, (m.f1.length : Int)⟩)
theorem zgp (o : List Mb) (l : List (S26)) (hl : l.length ≤ 70) : ∀ (d i : Nat) (x : List Mb), d = l.length - i → i ≤ l.length → x.length ≤ 70 + i → Evn (fun k => zaj.l1 k x l (l.length : Int) (i : Int)) (x ++ (l.drop i).map (fun m => ⟨m.f0, (m.f1.length : Int)⟩)) := by
 intro d
 induction d with
 | zero =>
  intro i x hd hi hx
  refine Evn.succ (Evn.neg o9 ((Evn.ret _).val ?_))
  rw [List.drop_eq_nil_of_le o9]; simp
 | succ d ih =>
  intro i x hd hi hx
  have h : i < l.length := by omega
  rw [List.drop_eq_getElem_cons h]
  refine Evn.succ (Evn.pos o9 (Evn.pos o9 (Evn.pos o9 (Evn.pos o9 ?_))))
  rw [rdS l i h, w1 h o9]
  refine (ih (i + 1) (x ++ [⟨l[i].f0, (l[i].f1.length : Int)⟩]) o9 o9 (by simp; omega)).val ?_
  simp only [List.append_assoc, List.map_cons, List.cons_append, List.nil_append]
theorem zgr (t : List Cl) (ht : TB t) (c : ByteArray) (l : List (S35)) (hl : l.length ≤ 70) : ∀ (d i : Nat) (x : List Mb), d = l.length - i → i ≤ l.length → x.length ≤ i → Evn (fun k => zaj.l0 k t c x l (l.length : Int) (i : Int)) (x ++ (l.drop i).map (fun v => ⟨v.f0, -1⟩) ++ (zbA t c).map (fun m => ⟨m.f0, (m.f1.length : Int)⟩)) := by
 intro d
 induction d with
 | zero =>
  intro i x hd hi hx
  refine Evn.succ (Evn.neg o9 (Evn.cbind (a := zaw.f t c) (v := zbA t c) ?_ ?_))
  ·
   unfold zaw.f
   rw [if_pos ⟨ht.small, by have := ht.all c; omega⟩]
  ·
   refine (zgp [] (zbA t c) (ht.meths c) _ 0 x rfl o9 o9).val ?_
   rw [List.drop_eq_nil_of_le (show l.length ≤ i by omega)]; simp
 | succ d ih =>
  intro i x hd hi hx
  have h : i < l.length := by omega
  rw [List.drop_eq_getElem_cons h]
  refine Evn.succ (Evn.pos o9 (Evn.pos o9 (Evn.pos o9 (Evn.pos o9 ?_))))
  rw [rdV l i h, w1 h o9]
  refine (ih (i + 1) (x ++ [⟨l[i].f0, -1⟩]) o9 o9 (by simp; omega)).val ?_
  simp only [List.append_assoc, List.map_cons, List.cons_append, List.nil_append]
theorem zcY {t : List Cl} (ht : TB t) (c : ByteArray) : Evn (fun k => zaj.f k t c) (mem t c) := by
 refine Evn.cbind (a := zaU.f t c) (v := za2 t c) ?_ ?_
 ·
  unfold zaU.f
  rw [if_pos ⟨by have := ht.len; omega, by have := ht.fields c; omega⟩]
 ·
  refine (zgr t ht c (za2 t c) (ht.fields c) _ 0 [] rfl o9 s9).val ?_
  simp [mem]
theorem zep {t : List Cl} (ht : TB t) (c : ByteArray) : (mem t c).length ≤ 140 := by
 have h1 := ht.fields c
 have h2 := ht.meths c
 simp only [mem, List.length_append, List.length_map]; omega
theorem rdC (l : List Cl) (i : Nat) (h : i < l.length) : zaf l (i : Int) = l[i] := by
 unfold zaf
 rw [Int.toNat_natCast, List.getD_eq_getElem?_getD, List.getElem?_eq_getElem h]; rfl
theorem zfq (l : List Vr) (hl : l.length ≤ 1000) : ∀ (d i : Nat), d = l.length - i → i ≤ l.length → (∀ j, j < i → ∀ h : j < l.length, l[j].f0.size ≤ 30 ∧ l[j].f1.size ≤ 30) →
  ∃ b, Evn (fun k => zai.l0 k l (i : Int)) b ∧ (b = false → ∀ v ∈ l, v.f0.size ≤ 30 ∧ v.f1.size ≤ 30) := by
 intro d
 induction d with
 | zero =>
  intro i hd hi hb
  refine ⟨false, Evn.succ (Evn.neg o9 (Evn.ret _)), fun _ x hx => ?_⟩
  obtain ⟨j, hj, rfl⟩ := List.getElem_of_mem hx
  exact hb j o9 hj
 | succ d ih =>
  intro i hd hi hb
  have h : i < l.length := by omega
  by_cases h0 : ((l[i].f0.size : Nat) : Int) > 30
  ·
   exact ⟨true, Evn.succ (Evn.pos o9 (Evn.pos o9 (Evn.pos (by rw [rdV l i h]; exact h0) (Evn.ret _)))), fun h => by cases h⟩
  by_cases h1 : ((l[i].f1.size : Nat) : Int) > 30
  ·
   exact ⟨true, Evn.succ (Evn.pos o9 (Evn.pos o9 (Evn.neg (by rw [rdV l i h]; exact h0) (Evn.pos (by rw [rdV l i h]; exact h1) (Evn.ret _))))), fun h => by cases h⟩
  obtain ⟨b, h3, h4⟩ := ih (i + 1) o9 o9 fun j hj hjl => by
   rcases Nat.lt_or_ge j i with h3 | h3
   ·
    exact hb j h3 hjl
   ·
    obtain rfl : j = i := by omega
    omega
  refine ⟨b, Evn.succ (Evn.pos o9 (Evn.pos o9 (Evn.neg (by rw [rdV l i h]; exact h0) (Evn.neg (by rw [rdV l i h]; exact h1) ?_)))), h4⟩
  rw [w1 h o9]; exact h3
theorem zdt (l : List Vr) (hl : l.length ≤ 1000) : ∃ b, Evn (fun k => zai.f k l) b ∧ (b = false → ∀ v ∈ l, v.f0.size ≤ 30 ∧ v.f1.size ≤ 30) := zfq l hl l.length 0 o9 o9 fun j hj => by omega
def okM (m : Sg) : Prop := m.f0.size ≤ 30 ∧ m.f2.size ≤ 30 ∧ m.f1.length ≤ 10 ∧ ∀ v ∈ m.f1, v.f0.size ≤ 30 ∧ v.f1.size ≤ 30
def okC (c : Cl) : Prop := c.f0.size ≤ 30 ∧ c.f1.size ≤ 30 ∧ c.f2.length ≤ 7 ∧ c.f3.length ≤ 7 ∧ (∀ v ∈ c.f2, v.f0.size ≤ 30 ∧ v.f1.size ≤ 30) ∧ ∀ m ∈ c.f3, okM m
theorem zhR (t : List Cl) (i : Nat) (b' : Bool) (hn : Evn (fun k => zac.l0 k t (wrap64 ((i : Int) + 1))) b') (n s : ByteArray) (fs : List Vr) (ms : List Sg) (hm : ms.length ≤ 7) : ∀ (d j : Nat), d = ms.length - j → j ≤ ms.length → (∀ q, q < j → ∀ h : q < ms.length, okM ms[q]) →
  ∃ b, Evn (fun k => zac.l1 k t (i : Int) (j : Int) n s fs ms) b ∧ (b = false → b' = false ∧ ∀ m ∈ ms, okM m) := by
 intro d
 induction d with
 | zero =>
  intro j hd hj hb
  refine ⟨b', Evn.succ (Evn.neg o9 hn), fun e => ⟨e, fun x hx => ?_⟩⟩
  obtain ⟨q, hq, rfl⟩ := List.getElem_of_mem hx
  exact hb q o9 hq
 | succ d ih =>
  intro j hd hj hb
  have h : j < ms.length := by omega
  by_cases h0 : ((ms[j].f0.size : Nat) : Int) > 30
  ·
   exact ⟨true, Evn.succ (Evn.pos o9 (Evn.pos o9 (Evn.pos (by rw [rdS ms j h]; exact h0) (Evn.ret _)))), fun h => by cases h⟩
  by_cases h1 : ((ms[j].f2.size : Nat) : Int) > 30
  ·
   exact ⟨true, Evn.succ (Evn.pos o9 (Evn.pos o9 (Evn.neg (by rw [rdS ms j h]; exact h0) (Evn.pos (by rw [rdS ms j h]; exact h1) (Evn.ret _))))), fun h => by cases h⟩
  by_cases h2 : ((ms[j].f1.length : Nat) : Int) > 10
  ·
   exact ⟨true, Evn.succ (Evn.pos o9 (Evn.pos o9 (Evn.neg (by rw [rdS ms j h]; exact h0) (Evn.neg (by rw [rdS ms j h]; exact h1) (Evn.pos (by rw [rdS ms j h]; exact h2) (Evn.ret _)))))), fun h => by cases h⟩
  obtain ⟨v, h3, h4⟩ := zdt ms[j].f1 o9
  rw [← rdS ms j h] at h3
  cases v with
  | true => exact ⟨true, Evn.succ (Evn.pos o9 (Evn.pos o9 (Evn.neg (by rw [rdS ms j h]; exact h0) (Evn.neg (by rw [rdS ms j h]; exact h1) (Evn.neg (by rw [rdS ms j h]; exact h2) (Evn.bind h3 (Evn.pos rfl (Evn.ret _)))))))), fun h => by cases h⟩
  | false =>
   obtain ⟨b, h5, h6⟩ := ih (j + 1) o9 o9 fun q hq hql => by
    rcases Nat.lt_or_ge q j with h3 | h3
    ·
     exact hb q h3 hql
    ·
     obtain rfl : q = j := by omega
     exact ⟨by omega, by omega, by omega, h4 rfl⟩
   refine ⟨b, Evn.succ (Evn.pos o9 (Evn.pos o9 (Evn.neg (by rw [rdS ms j h]; exact h0) (Evn.neg (by rw [rdS ms j h]; exact h1) (Evn.neg (by rw [rdS ms j h]; exact h2) (Evn.bind h3 (Evn.neg s9 ?_))))))), h6⟩
   rw [w1 h o9]; exact h5
theorem zhh (t : List Cl) : ∀ (d i : Nat), d = 10 - i → i ≤ 10 → i ≤ t.length →
  ∃ b, Evn (fun k => zac.l0 k t (i : Int)) b ∧ (b = false → t.length ≤ 9 ∧ ∀ j, i ≤ j → ∀ h : j < t.length, okC t[j]) := by
 intro d
 induction d with
 | zero =>
  intro i hd hi hil
  obtain rfl : i = 10 := by omega
  by_cases h : (10 : Int) < (t.length : Int)
  ·
   refine ⟨true, Evn.succ (Evn.pos h (Evn.succ (Evn.congr (g' := fun _ => some (decide ((t.length : Int) > 9))) (fun k => rfl) ((Evn.ret _).val ?_)))), fun h => by cases h⟩
   simp; omega
  ·
   refine ⟨true, Evn.succ (Evn.neg h (Evn.succ (Evn.congr (g' := fun _ => some (decide ((t.length : Int) > 9))) (fun k => rfl) ((Evn.ret _).val ?_)))), fun h => by cases h⟩
   simp; omega
 | succ d ih =>
  intro i hd hi hil
  by_cases h : i < t.length
  ·
   have hs : ∀ {b : Bool}, Evn (fun k => if (0 : Int) ≤ (i : Int) then (if (i : Int) < (t.length : Int) then (if (((zaf t (i : Int)).f0).size : Int) > 30 then (zac.j2 k t (i : Int) true ((zaf t (i : Int)).f0) ((zaf t (i : Int)).f1) ((zaf t (i : Int)).f2) ((zaf t (i : Int)).f3)) else (if (((zaf t (i : Int)).f1).size : Int) > 30 then (zac.j2 k t (i : Int) true ((zaf t (i : Int)).f0) ((zaf t (i : Int)).f1) ((zaf t (i : Int)).f2) ((zaf t (i : Int)).f3)) else (if (((zaf t (i : Int)).f2).length : Int) > 7 then (zac.j2 k t (i : Int) true ((zaf t (i : Int)).f0) ((zaf t (i : Int)).f1) ((zaf t (i : Int)).f2) ((zaf t (i : Int)).f3)) else (if (((zaf t (i : Int)).f3).length : Int) > 7 then (zac.j2 k t (i : Int) true ((zaf t (i : Int)).f0) ((zaf t (i : Int)).f1) ((zaf t (i : Int)).f2) ((zaf t (i : Int)).f3)) else ((zai.f k ((zaf t (i : Int)).f2)).bind fun t265 => (zac.j2 k t (i : Int) t265 ((zaf t (i : Int)).f0) ((zaf t (i : Int)).f1) ((zaf t (i : Int)).f2) ((zaf t (i : Int)).f3))))))) else (none)) else (none)) b →
     Evn (fun k => zac.l0 k t (i : Int)) b := fun hh => Evn.succ (Evn.pos o9 (Evn.succ (Evn.pos (by simp; omega) hh)))
   have hj : ∀ (n s : ByteArray) (fs : List Vr) (ms : List Sg), Evn (fun k => zac.j2 k t (i : Int) true n s fs ms) true := fun n s fs ms => Evn.succ (Evn.congr (g' := fun _ => some true) (fun k => rfl) (Evn.ret _))
   rw [rdC t i h] at hs
   by_cases h0 : ((t[i].f0.size : Nat) : Int) > 30
   ·
    exact ⟨true, hs (Evn.pos o9 (Evn.pos o9 (Evn.pos h0 (hj _ _ _ _)))), fun h => by cases h⟩
   by_cases h1 : ((t[i].f1.size : Nat) : Int) > 30
   ·
    exact ⟨true, hs (Evn.pos o9 (Evn.pos o9 (Evn.neg h0 (Evn.pos h1 (hj _ _ _ _))))), fun h => by cases h⟩
   by_cases h2 : ((t[i].f2.length : Nat) : Int) > 7
   ·
    exact ⟨true, hs (Evn.pos o9 (Evn.pos o9 (Evn.neg h0 (Evn.neg h1 (Evn.pos h2 (hj _ _ _ _)))))), fun h => by cases h⟩
   by_cases h3 : ((t[i].f3.length : Nat) : Int) > 7
   ·
    exact ⟨true, hs (Evn.pos o9 (Evn.pos o9 (Evn.neg h0 (Evn.neg h1 (Evn.neg h2 (Evn.pos h3 (hj _ _ _ _))))))), fun h => by cases h⟩
   obtain ⟨v, h4, h5⟩ := zdt t[i].f2 o9
   cases v with
   | true => exact ⟨true, hs (Evn.pos o9 (Evn.pos o9 (Evn.neg h0 (Evn.neg h1 (Evn.neg h2 (Evn.neg h3 (Evn.bind h4 (hj _ _ _ _)))))))), fun h => by cases h⟩
   | false =>
    obtain ⟨b', h6, h7⟩ := ih (i + 1) o9 o9 o9
    rw [← w1 (show i < 10 by omega) o9] at h6
    obtain ⟨b, h8, h9⟩ := zhR t i b' h6 t[i].f0 t[i].f1 t[i].f2 t[i].f3 o9 t[i].f3.length 0 o9 o9 (fun q hq => by omega)
    refine ⟨b, hs (Evn.pos o9 (Evn.pos o9 (Evn.neg h0 (Evn.neg h1 (Evn.neg h2 (Evn.neg h3 (Evn.bind h4 (Evn.succ (Evn.congr (fun k => rfl) h8))))))))), fun e => ?_⟩
    obtain ⟨e1, e2⟩ := h9 e
    obtain ⟨e3, e4⟩ := h7 e1
    refine ⟨e3, fun j hj hjl => ?_⟩
    rcases Nat.eq_or_lt_of_le hj with rfl | hj
    ·
     exact ⟨by omega, by omega, by omega, by omega, h5 rfl, e2⟩
    ·
     exact e4 j hj hjl
  ·
   refine ⟨decide ((t.length : Int) > 9), Evn.succ (Evn.neg o9 (Evn.succ (Evn.congr (fun k => rfl) (Evn.ret _)))), fun e => ⟨by have := of_decide_eq_false e; omega, fun j hj hjl => by omega⟩⟩
structure TS (t : List Cl) : Prop extends TB t where
 ok : ∀ c ∈ t, okC c
theorem zgK (t : List Cl) : ∃ b, Evn (fun k => zac.f k t) b ∧ (b = false → TS t) := by
 obtain ⟨b, h1, h2⟩ := zhh t 10 0 rfl o9 o9
 refine ⟨b, h1, fun e => ?_⟩
 obtain ⟨h3, h4⟩ := h2 e
 have h5 : ∀ c ∈ t, okC c := fun c hc => by
  obtain ⟨j, hj, rfl⟩ := List.getElem_of_mem hc
  exact h4 j o9 hj
 exact { len := h3, fs := fun c hc => (h5 c hc).2.2.1, ms := fun c hc => (h5 c hc).2.2.2.1, ps := fun c hc m hm => ((h5 c hc).2.2.2.2.2 m hm).2.2.1, ok := h5 }
theorem bl {a b : ByteArray} (h : a.toList = b.toList) : a = b := toList_inj h
theorem bl0 {a : ByteArray} (h : a.toList = []) : a = ⟨#[]⟩ := toList_inj (h.trans (show ([] : List UInt8) = (⟨#[]⟩ : ByteArray).toList by kernel_rfl))
structure Good (t : List Cl) : Prop where
 siz : ∀ i, i < t.length → zdq t i = 0
 lin : ∀ i, i < t.length → zdU t i = 0
 own : ∀ i, i < t.length → ownF t (mem t (clsAt t i).f1) i = 0
theorem zd2 (f : Nat → Int) : ∀ l : List Nat, scanL f l = none → ∀ i ∈ l, f i = 0
 | [], _, i, hi => by cases hi
 | x :: r, h, i, hi => by
  unfold scanL at h
  by_cases hx : f x = 0
  ·
   rw [if_pos hx] at h
   rcases List.mem_cons.1 hi with rfl | hi
   ·
    exact hx
   ·
    exact zd2 f r h i hi
  ·
   rw [if_neg hx] at h; cases h
theorem zdY (f : Nat → Int) : ∀ (l : List Nat) (i : Nat), scanL f l = some i → ¬ f i = 0
 | [], i, h => by cases h
 | x :: r, i, h => by
  unfold scanL at h
  by_cases hx : f x = 0
  ·
   rw [if_pos hx] at h; exact zdY f r i h
  ·
   rw [if_neg hx] at h; cases h; exact hx
theorem zfd (t : List Cl) (mb : ByteArray → List Mb) : ∀ ks : List Nat, (zb3 t mb ks).1 = 0 → ∀ k ∈ ks, ∀ i, i < t.length → lookF t mb k i = 0
 | [], _, k, hk => by cases hk
 | k0 :: r, h, k, hk => by
  unfold zb3 at h
  cases hs : scanL (lookF t mb k0) (List.range t.length) with
  | some j => rw [hs] at h; exact absurd h (zdY _ _ _ hs)
  | none =>
   rw [hs] at h
   rcases List.mem_cons.1 hk with rfl | hk
   ·
    exact fun i hi => zd2 _ _ hs i (List.mem_range.2 hi)
   ·
    exact zfd t mb r h k hk
theorem zhv {t : List Cl} (h : (zbP t (mem t)).1 = 0) : Good t := by
 unfold zbP at h
 by_cases h40 : 40 < t.length
 ·
  rw [if_pos h40] at h; exact absurd h d9
 ·
  rw [if_neg h40] at h
  have h1 := zfd t (mem t) [0, 1, 2] h
  exact ⟨fun i hi => h1 0 s9 i hi, fun i hi => h1 1 s9 i hi, fun i hi => h1 2 s9 i hi⟩
theorem ix_le (s : ByteArray) : ∀ (l : List Cl) (i j : Nat), j < l.length → (clsAt l j).f0 = s → 0 ≤ idxC s l i ∧ idxC s l i ≤ ((i + j : Nat) : Int)
 | [], i, j, h, _ => by simp at h
 | x :: r, i, 0, _, h => by
  have hx : x.f0 = s := h
  unfold idxC
  rw [if_pos (by rw [hx])]
  omega
 | x :: r, i, j + 1, hj, h => by
  rw [zd1] at h
  unfold idxC
  by_cases hx : x.f0.toList = s.toList
  ·
   rw [if_pos hx]; omega
  ·
   rw [if_neg hx]
   have := ix_le s r (i + 1) j (by simpa using hj) h
   omega
section
variable {t : List Cl} (g : Good t)
include g
theorem Good.grt (i : Nat) (hi : i < t.length) : word great (clsAt t i).f0 = true := by
 have h := g.siz i hi
 unfold zdq at h
 cases hw : word great (clsAt t i).f0 with
 | true => rfl
 | false => rw [if_pos hw] at h; exact absurd h d9
theorem Good.first (i : Nat) (hi : i < t.length) : idxC (clsAt t i).f0 t 0 = (i : Int) := by
 have h := g.siz i hi
 unfold zdq at h
 rw [if_neg (by rw [g.grt i hi]; decide)] at h
 have h1 := ix_le (clsAt t i).f0 t 0 i hi rfl
 by_cases h2 : at1 t (clsAt t i).f0 < (i : Int)
 ·
  rw [if_pos h2] at h; exact absurd h d9
 ·
  unfold at1 at h2
  rw [if_neg o9] at h2
  omega
theorem Good.ne (i : Nat) (hi : i < t.length) : (clsAt t i).f0 ≠ ⟨#[]⟩ := fun e => by
 have h := g.grt i hi
 rw [e] at h
 unfold word at h
 exact absurd h d9
end
def up (t : List Cl) (i : Nat) : Option Nat := if idxC (clsAt t i).f1 t 0 < 0 then none else some (idxC (clsAt t i).f1 t 0).toNat
theorem zcf {t : List Cl} {i j : Nat} (h : up t i = some j) : j < t.length ∧ (clsAt t i).f1 = (clsAt t j).f0 ∧ idxC (clsAt t i).f1 t 0 = (j : Int) := by
 unfold up at h
 by_cases h1 : idxC (clsAt t i).f1 t 0 < 0
 ·
  rw [if_pos h1] at h; cases h
 ·
  rw [if_neg h1] at h
  cases h
  obtain ⟨h2, h3, _⟩ := zbY _ t h1
  exact ⟨h2, (bl h3).symm, by omega⟩
theorem zea {t : List Cl} {i : Nat} (h : up t i = none) : idxC (clsAt t i).f1 t 0 < 0 := by
 unfold up at h
 by_cases h1 : idxC (clsAt t i).f1 t 0 < 0
 ·
  exact h1
 ·
  rw [if_neg h1] at h; cases h
def it (t : List Cl) : Nat → Nat → Option Nat
 | 0, i => some i
 | k + 1, i => (up t i).bind (it t k)
theorem zcj (t : List Cl) : ∀ (a b i : Nat), it t (a + b) i = (it t a i).bind (it t b)
 | 0, b, i => by rw [Nat.zero_add]; rfl
 | a + 1, b, i => by
  rw [Nat.add_right_comm]
  show (up t i).bind (it t (a + b)) = ((up t i).bind (it t a)).bind (it t b)
  cases up t i with
  | none => rfl
  | some j => exact zcj t a b j
theorem it_lt (t : List Cl) : ∀ (a i j : Nat), i < t.length → it t a i = some j → j < t.length
 | 0, i, j, hi, h => by cases h; exact hi
 | a + 1, i, j, hi, h => by
  obtain ⟨m, h1, h2⟩ := Option.bind_eq_some_iff.1 h
  exact it_lt t a m j (zcf h1).1 h2
theorem zdQ {t : List Cl} {p i : Nat} (hp : 1 ≤ p) (h : it t p i = some i) : ∀ m, (it t m i).isSome = true := by
 intro m
 induction m using Nat.strongRecOn with
 | _ m ih =>
  rcases Nat.lt_or_ge m p with hm | hm
  ·
   have h1 := zcj t m (p - m) i
   rw [show m + (p - m) = p by omega, h] at h1
   cases hx : it t m i with
   | none => rw [hx] at h1; cases h1
   | some _ => rfl
  ·
   have h1 := zcj t p (m - p) i
   rw [show p + (m - p) = m by omega, h] at h1
   rw [h1]
   exact ih (m - p) o9
def path (t : List Cl) : Nat → Nat → List Nat
 | 0, i => [i]
 | k + 1, i => i :: (match up t i with | none => [] | some j => path t k j)
theorem zcz (t : List Cl) (k : Nat) (pre : List Nat) (nm : ByteArray) (h : idxC nm t 0 < 0) : lineP t k pre nm = [] := by
 cases k with
 | zero => rfl
 | succ k => unfold lineP; rw [if_pos h]
theorem zeJ (t : List Cl) : ∀ (k i : Nat) (pre : List Nat) (fuel : Nat) (nm : ByteArray), idxC nm t 0 = (i : Int) → it t (k + 1) i = none → (∀ q ∈ pre, ∀ j, it t j i ≠ some q) → k < fuel → lineP t fuel pre nm = path t k i := by
 intro k
 induction k with
 | zero =>
  intro i pre fuel nm hn hd hp hf
  obtain ⟨f, rfl⟩ : ∃ f, fuel = f + 1 := ⟨fuel - 1, by omega⟩
  unfold lineP
  rw [if_neg o9, hn, Int.toNat_natCast, if_neg (fun h => hp i h 0 rfl)]
  have hu : up t i = none := by
   cases hu : up t i with
   | none => rfl
   | some j => simp [it, hu] at hd
  rw [zcz t _ _ _ (zea hu)]
  rfl
 | succ k ih =>
  intro i pre fuel nm hn hd hp hf
  obtain ⟨f, rfl⟩ : ∃ f, fuel = f + 1 := ⟨fuel - 1, by omega⟩
  unfold lineP
  rw [if_neg o9, hn, Int.toNat_natCast, if_neg (fun h => hp i h 0 rfl)]
  unfold path
  cases hu : up t i with
  | none => rw [zcz t _ _ _ (zea hu)]
  | some j =>
   have hd' : it t (k + 1) j = none := by
    have : it t (k + 1 + 1) i = (up t i).bind (it t (k + 1)) := rfl
    rw [this, hu] at hd
    exact hd
   have hs : ∀ a, it t (a + 1) i = it t a j := fun a => by
    show (up t i).bind (it t a) = _
    rw [hu]; rfl
   rw [ih j (pre ++ [i]) f _ (zcf hu).2.2 hd' (fun q hq a ha => ?_) o9]
   rcases List.mem_append.1 hq with hq | hq
   ·
    exact hp q hq (a + 1) ((hs a).trans ha)
   ·
    rw [List.mem_singleton] at hq
    subst hq
    have := zdQ (p := a + 1) o9 ((hs a).trans ha) (k + 1 + 1)
    rw [hd] at this
    cases this
theorem zeE (t : List Cl) : ∀ (k i : Nat), it t (k + 1) i = none → path t (k + 1) i = path t k i
 | 0, i, h => by
  have hu : up t i = none := by
   cases hu : up t i with
   | none => rfl
   | some j => simp [it, hu] at h
  simp [path, hu]
 | k + 1, i, h => by
  show i :: _ = i :: _
  cases hu : up t i with
  | none => rfl
  | some j =>
   have h' : it t (k + 1) j = none := by
    have : it t (k + 1 + 1) i = (up t i).bind (it t (k + 1)) := rfl
    rw [this, hu] at h
    exact h
   show i :: path t (k + 1) j = i :: path t k j
   rw [zeE t k j h']
theorem zhd {t : List Cl} {s : Nat} : ∀ p, 1 ≤ p → it t p s = some s → ∃ p, 1 ≤ p ∧ it t p s = some s ∧ ∀ q, 1 ≤ q → q < p → it t q s ≠ some s := by
 intro p
 induction p using Nat.strongRecOn with
 | _ p ih =>
  intro hp h
  by_cases hm : ∀ q, 1 ≤ q → q < p → it t q s ≠ some s
  ·
   exact ⟨p, hp, h, hm⟩
  ·
   obtain ⟨q, hq⟩ := Classical.not_forall.1 hm
   obtain ⟨h1, hq⟩ := Classical.not_imp.1 hq
   obtain ⟨h2, hq⟩ := Classical.not_imp.1 hq
   exact ih q h2 h1 (Classical.not_not.1 hq)
theorem zgx {t : List Cl} {s p : Nat} (hp : 1 ≤ p) (h : it t p s = some s) (hm : ∀ q, 1 ≤ q → q < p → it t q s ≠ some s) (z : Nat) (hz : it t (p - 1) s = some z) :
  ∀ (d q x : Nat) (pre : List Nat) (fuel : Nat) (nm : ByteArray), d = p - 1 - q → q < p → it t q s = some x → idxC nm t 0 = (x : Int) → (∀ y ∈ pre, ∃ r, r < q ∧ it t r s = some y) → (0 < q → s ∈ pre) → d < fuel → (lineP t fuel pre nm).getLast? = some z := by
 have hdist : ∀ a b x, a < b → b < p → it t a s = some x → it t b s = some x → False := fun a b x hab hb h1 h2 => by
  have h3 := zcj t b (p - b) s
  rw [show b + (p - b) = p by omega, h, h2] at h3
  have h4 := zcj t a (p - b) s
  rw [h1] at h4
  exact hm (a + (p - b)) o9 o9 (h4.trans h3.symm)
 intro d
 induction d with
 | zero =>
  intro q x pre fuel nm hd hq hx hn hpre hs hf
  obtain rfl : q = p - 1 := by omega
  obtain rfl : x = z := Option.some.inj (hx.symm.trans hz)
  obtain ⟨f, rfl⟩ : ∃ f, fuel = f + 1 := ⟨fuel - 1, by omega⟩
  unfold lineP
  rw [if_neg o9, hn, Int.toNat_natCast, if_neg (fun hh => by
   obtain ⟨r, h1, h2⟩ := hpre x hh
   exact hdist r (p - 1) x h1 hq h2 hx)]
  have hux : up t x = some s := by
   have h3 := zcj t (p - 1) 1 s
   rw [show p - 1 + 1 = p by omega, h, hx] at h3
   have h4 : some s = (up t x).bind (it t 0) := h3
   cases hu : up t x with
   | none => rw [hu] at h4; cases h4
   | some j => rw [hu] at h4; exact h4.symm
  have hi := (zcf hux).2.2
  have : lineP t f (pre ++ [x]) (clsAt t x).f1 = [] := by
   cases f with
   | zero => rfl
   | succ f =>
    unfold lineP
    rw [if_neg o9, hi, Int.toNat_natCast, if_pos]
    rcases Nat.eq_zero_or_pos (p - 1) with h0 | h0
    ·
     rw [h0] at hx
     cases hx
     simp
    ·
     exact List.mem_append_left _ (hs h0)
  rw [this]; rfl
 | succ d ih =>
  intro q x pre fuel nm hd hq hx hn hpre hs hf
  obtain ⟨f, rfl⟩ : ∃ f, fuel = f + 1 := ⟨fuel - 1, by omega⟩
  unfold lineP
  rw [if_neg o9, hn, Int.toNat_natCast, if_neg (fun hh => by
   obtain ⟨r, h1, h2⟩ := hpre x hh
   exact hdist r q x h1 hq h2 hx)]
  have hq1 := zdQ hp h (q + 1)
  obtain ⟨y, hy⟩ := Option.isSome_iff_exists.1 hq1
  have hux : up t x = some y := by
   have h3 := zcj t q 1 s
   rw [hy, hx] at h3
   have h4 : some y = (up t x).bind (it t 0) := h3
   cases hu : up t x with
   | none => rw [hu] at h4; cases h4
   | some j => rw [hu] at h4; exact h4.symm
  have h1 := ih (q + 1) y (pre ++ [x]) f _ o9 o9 hy (zcf hux).2.2 (fun w hw => by
   rcases List.mem_append.1 hw with hw | hw
   ·
    obtain ⟨r, h1, h2⟩ := hpre w hw
    exact ⟨r, by omega, h2⟩
   ·
    rw [List.mem_singleton.1 hw]; exact ⟨q, by omega, hx⟩) (fun _ => by
   rcases Nat.eq_zero_or_pos q with h0 | h0
   ·
    subst h0
    cases hx
    simp
   ·
    exact List.mem_append_left _ (hs h0)) o9
  rw [List.getLast?_cons, h1]; rfl
theorem zgn {t : List Cl} {nm : ByteArray} {z : Nat} (h : (lineL t nm).getLast? = some z) : lastN t nm = (clsAt t z).f0 := by
 have h0 : (supL t nm).length = (lineL t nm).length := by simp [supL]
 have hne : lineL t nm ≠ [] := fun e => by rw [e] at h; cases h
 have hp := List.length_pos_iff.2 hne
 unfold lastN rdOf
 rw [show ((((supL t nm).length : Int) - 1)).toNat = (lineL t nm).length - 1 by omega, List.getD_eq_getElem?_getD]
 unfold supL
 rw [List.getElem?_map]
 rw [List.getLast?_eq_getElem?] at h
 rw [h]; rfl
theorem Good.zhW {t : List Cl} (g : Good t) {s : Nat} (hs : s < t.length) (p : Nat) (hp : 1 ≤ p) : it t p s ≠ some s := fun h => by
 obtain ⟨p, hp, h, hm⟩ := zhd p hp h
 obtain ⟨z, hz⟩ := Option.isSome_iff_exists.1 (zdQ hp h (p - 1))
 have hzl := it_lt t _ _ _ hs hz
 have hux : up t z = some s := by
  have h3 := zcj t (p - 1) 1 s
  rw [show p - 1 + 1 = p by omega, h, hz] at h3
  have h4 : some s = (up t z).bind (it t 0) := h3
  cases hu : up t z with
  | none => rw [hu] at h4; cases h4
  | some j => rw [hu] at h4; exact h4.symm
 have hple : p ≤ t.length := by
  have hn : ((List.range p).map fun j => (it t j s).getD 0).Nodup := by
   refine List.pairwise_map.2 (List.Pairwise.imp_of_mem ?_ List.pairwise_lt_range)
   intro a b ha hb hab e
   obtain ⟨x, hx⟩ := Option.isSome_iff_exists.1 (zdQ hp h a)
   obtain ⟨y, hy⟩ := Option.isSome_iff_exists.1 (zdQ hp h b)
   rw [hx, hy] at e
   have exy : x = y := e
   subst exy
   have hbp := List.mem_range.1 hb
   have h3 := zcj t b (p - b) s
   rw [show b + (p - b) = p by omega, h, hy] at h3
   have h4 := zcj t a (p - b) s
   rw [hx] at h4
   exact hm (a + (p - b)) o9 o9 (h4.trans h3.symm)
  have := zcQ _ (List.range t.length) hn (fun x hx => by
   obtain ⟨j, _, rfl⟩ := List.mem_map.1 hx
   obtain ⟨y, hy⟩ := Option.isSome_iff_exists.1 (zdQ hp h j)
   rw [hy]
   exact List.mem_range.2 (it_lt t _ _ _ hs hy))
  simpa using this
 have hl := zgx hp h hm z hz (p - 1) 0 s [] (t.length + 1) (clsAt t s).f0 o9 o9 rfl (g.first s hs) (fun y hy => by cases hy) (fun h => absurd h o9) o9
 have h5 := zgn (nm := (clsAt t s).f0) hl
 have h6 := g.lin s hs
 unfold zdU at h6
 rw [h5] at h6
 have h7 : at1 t (clsAt t z).f0 = (z : Int) := by unfold at1; rw [g.first z hzl, if_neg o9]
 rw [h7, Int.toNat_natCast, (zcf hux).2.1] at h6
 by_cases h8 : ¬ (clsAt t s).f1.toList = [] ∧ is1 t (clsAt t s).f1 = false
 ·
  rw [if_pos h8] at h6; exact absurd h6 d9
 ·
  rw [if_neg h8, if_pos rfl] at h6; exact absurd h6 d9
theorem Good.ends {t : List Cl} (g : Good t) {i : Nat} (hi : i < t.length) : it t t.length i = none := by
 cases hx : it t t.length i with
 | none => rfl
 | some x =>
  exfalso
  have hs : ∀ j, j ≤ t.length → ∃ y, it t j i = some y := fun j hj => by
   have h1 := zcj t j (t.length - j) i
   rw [show j + (t.length - j) = t.length by omega, hx] at h1
   cases hy : it t j i with
   | none => rw [hy] at h1; cases h1
   | some y => exact ⟨y, rfl⟩
  have hn : ((List.range (t.length + 1)).map fun j => (it t j i).getD 0).Nodup := by
   refine List.pairwise_map.2 (List.Pairwise.imp_of_mem ?_ List.pairwise_lt_range)
   intro a b ha hb hab e
   obtain ⟨x, hx⟩ := hs a (by have := List.mem_range.1 ha; omega)
   obtain ⟨y, hy⟩ := hs b (by have := List.mem_range.1 hb; omega)
   rw [hx, hy] at e
   have exy : x = y := e
   subst exy
   have h1 := zcj t a (b - a) i
   rw [show a + (b - a) = b by omega, hx, hy] at h1
   exact g.zhW (it_lt t _ _ _ hi hx) (b - a) o9 h1.symm
  have := zcQ _ (List.range t.length) hn (fun x hx => by
   obtain ⟨j, hj, rfl⟩ := List.mem_map.1 hx
   obtain ⟨y, hy⟩ := hs j (by have := List.mem_range.1 hj; omega)
   rw [hy]
   exact List.mem_range.2 (it_lt t _ _ _ hi hy))
  simp only [List.length_map, List.length_range] at this
  omega
theorem Good.line {t : List Cl} (g : Good t) {i : Nat} (hi : i < t.length) : lineL t (clsAt t i).f0 = i :: lineL t (clsAt t i).f1 := by
 obtain ⟨m, hm⟩ : ∃ m, t.length = m + 1 := ⟨t.length - 1, by omega⟩
 have hd := g.ends hi
 rw [hm] at hd
 have h1 : lineL t (clsAt t i).f0 = path t m i := zeJ t m i [] _ _ (g.first i hi) hd (fun q hq => by cases hq) o9
 rw [h1]
 cases hu : up t i with
 | none =>
  have h2 : lineL t (clsAt t i).f1 = [] := zcz t _ _ _ (zea hu)
  rw [h2]
  cases m with
  | zero => rfl
  | succ m => simp [path, hu]
 | some j =>
  have hj := g.ends (zcf hu).1
  rw [hm] at hj
  have h2 : lineL t (clsAt t i).f1 = path t m j := zeJ t m j [] _ _ (zcf hu).2.2 hj (fun q hq => by cases hq) o9
  rw [h2]
  cases m with
  | zero => simp [it, hu] at hd
  | succ m =>
   have hd' : it t (m + 1) j = none := by
    have : it t (m + 1 + 1) i = (up t i).bind (it t (m + 1)) := rfl
    rw [this, hu] at hd
    exact hd
   rw [zeE t m j hd']
   simp [path, hu]
theorem Good.zhL {t : List Cl} (g : Good t) {P : ByteArray → Prop} (h0 : ∀ nm, idxC nm t 0 < 0 → P nm) (hs : ∀ i, i < t.length → P (clsAt t i).f1 → P (clsAt t i).f0) (nm : ByteArray) : P nm := by
 have key : ∀ m i, i < t.length → it t m i = none → P (clsAt t i).f0 := by
  intro m
  induction m with
  | zero => intro i hi h; cases h
  | succ m ih =>
   intro i hi h
   refine hs i hi ?_
   cases hu : up t i with
   | none => exact h0 _ (zea hu)
   | some j =>
    rw [(zcf hu).2.1]
    have : it t (m + 1) i = (up t i).bind (it t m) := rfl
    rw [this, hu] at h
    exact ih j (zcf hu).1 h
 by_cases hn : idxC nm t 0 < 0
 ·
  exact h0 nm hn
 ·
  obtain ⟨h1, h2, _⟩ := zbY nm t hn
  rw [← bl h2]
  exact key _ _ h1 (g.ends h1)
theorem zgg {t : List Cl} {nm : ByteArray} (h : idxC nm t 0 < 0) : lineL t nm = [] := zcz t _ _ _ h
theorem Good.fields {t : List Cl} (g : Good t) {i : Nat} (hi : i < t.length) : za2 t (clsAt t i).f0 = za2 t (clsAt t i).f1 ++ (clsAt t i).f2 := by
 unfold za2 zbM
 rw [g.line hi, List.reverse_cons, List.flatMap_append]
 simp
theorem Good.meths {t : List Cl} (g : Good t) {i : Nat} (hi : i < t.length) : zbA t (clsAt t i).f0 = (clsAt t i).f3.foldl putS (zbA t (clsAt t i).f1) := by
 unfold zbA zeu
 rw [g.line hi, List.reverse_cons, List.flatMap_append, List.foldl_append]
 simp
theorem Good.zgU {t : List Cl} (g : Good t) {i : Nat} (hi : i < t.length) (nm : ByteArray) : methodAt t nm (lineL t (clsAt t i).f0) = if idxS nm (clsAt t i).f3 0 < 0 then methodAt t nm (lineL t (clsAt t i).f1) else some i := by
 unfold methodAt
 rw [g.line hi]
 by_cases h : idxS nm (clsAt t i).f3 0 < 0
 ·
  rw [if_pos h, List.find?_cons_of_neg (by simpa using h)]
 ·
  rw [if_neg h, List.find?_cons_of_pos (by simpa using h)]
theorem uniq {α β : Type} (f : α → β) : ∀ {l : List α}, (l.map f).Nodup → ∀ x ∈ l, ∀ y ∈ l, f x = f y → x = y
 | [], _, x, hx, _, _, _ => by cases hx
 | z :: r, hd, x, hx, y, hy, e => by
  rw [List.map_cons, List.nodup_cons] at hd
  rcases List.mem_cons.1 hx with rfl | hx1
  ·
   rcases List.mem_cons.1 hy with rfl | hy1
   ·
    rfl
   ·
    exact absurd (show f x ∈ r.map f from List.mem_map.2 ⟨y, hy1, e.symm⟩) hd.1
  ·
   rcases List.mem_cons.1 hy with rfl | hy1
   ·
    exact absurd (show f y ∈ r.map f from List.mem_map.2 ⟨x, hx1, e⟩) hd.1
   ·
    exact uniq f hd.2 x hx1 y hy1 e
theorem zdz (s : ByteArray) : ∀ (l : List Vr) (i : Nat), (idxV s l i < 0 ∧ ∀ x ∈ l, x.f0 ≠ s) ∨ ∃ j x, l[j]? = some x ∧ x.f0 = s ∧ idxV s l i = ((i + j : Nat) : Int)
 | [], i => .inl ⟨by simp [idxV], fun x h => by cases h⟩
 | y :: r, i => by
  unfold idxV
  by_cases hy : y.f0.toList = s.toList
  ·
   rw [if_pos hy]; exact .inr ⟨0, y, rfl, bl hy, by simp⟩
  ·
   rw [if_neg hy]
   rcases zdz s r (i + 1) with ⟨h1, h2⟩ | ⟨j, x, h1, h2, h3⟩
   ·
    refine .inl ⟨h1, fun x hx => ?_⟩
    rcases List.mem_cons.1 hx with rfl | hx
    ·
     exact fun e => hy (by rw [e])
    ·
     exact h2 x hx
   ·
    exact .inr ⟨j + 1, x, h1, h2, by rw [h3]; congr 1; omega⟩
theorem fV_in {nm : ByteArray} {l : List Vr} {x : Vr} (hx : x ∈ l) (hn : x.f0 = nm) : ¬ idxV nm l 0 < 0 ∧ zcP nm l ∈ l ∧ (zcP nm l).f0 = nm := by
 rcases zdz nm l 0 with ⟨_, h2⟩ | ⟨j, y, h1, h2, h3⟩
 ·
  exact absurd hn (h2 x hx)
 ·
  rw [Nat.zero_add] at h3
  have h4 : ¬ idxV nm l 0 < 0 := by omega
  have h5 : zcP nm l = y := by
   unfold zcP
   rw [if_neg h4, h3]
   unfold zaI
   rw [Int.toNat_natCast, List.getD_eq_getElem?_getD, h1]; rfl
  rw [h5]
  exact ⟨h4, List.mem_of_getElem? h1, h2⟩
theorem fV_is {l : List Vr} (hd : (l.map fun x => x.f0).Nodup) {x : Vr} (hx : x ∈ l) : zcP x.f0 l = x := by
 obtain ⟨_, h1, h2⟩ := fV_in hx rfl
 exact uniq (fun x : Vr => x.f0) hd _ h1 _ hx h2
theorem zdv (s : ByteArray) : ∀ (l : List Sg) (i : Nat), (idxS s l i < 0 ∧ ∀ x ∈ l, x.f0 ≠ s) ∨ ∃ j x, l[j]? = some x ∧ x.f0 = s ∧ idxS s l i = ((i + j : Nat) : Int)
 | [], i => .inl ⟨by simp [idxS], fun x h => by cases h⟩
 | y :: r, i => by
  unfold idxS
  by_cases hy : y.f0.toList = s.toList
  ·
   rw [if_pos hy]; exact .inr ⟨0, y, rfl, bl hy, by simp⟩
  ·
   rw [if_neg hy]
   rcases zdv s r (i + 1) with ⟨h1, h2⟩ | ⟨j, x, h1, h2, h3⟩
   ·
    refine .inl ⟨h1, fun x hx => ?_⟩
    rcases List.mem_cons.1 hx with rfl | hx
    ·
     exact fun e => hy (by rw [e])
    ·
     exact h2 x hx
   ·
    exact .inr ⟨j + 1, x, h1, h2, by rw [h3]; congr 1; omega⟩
theorem fS_in {nm : ByteArray} {l : List Sg} {x : Sg} (hx : x ∈ l) (hn : x.f0 = nm) : ¬ idxS nm l 0 < 0 ∧ zci nm l ∈ l ∧ (zci nm l).f0 = nm := by
 rcases zdv nm l 0 with ⟨_, h2⟩ | ⟨j, y, h1, h2, h3⟩
 ·
  exact absurd hn (h2 x hx)
 ·
  rw [Nat.zero_add] at h3
  have h4 : ¬ idxS nm l 0 < 0 := by omega
  have h5 : zci nm l = y := by
   unfold zci
   rw [if_neg h4, h3]
   unfold zaF
   rw [Int.toNat_natCast, List.getD_eq_getElem?_getD, h1]; rfl
  rw [h5]
  exact ⟨h4, List.mem_of_getElem? h1, h2⟩
theorem zgZ {nm : ByteArray} {l : List Sg} (h : ∀ x ∈ l, x.f0 ≠ nm) : idxS nm l 0 < 0 ∧ zci nm l = z26 := by
 rcases zdv nm l 0 with ⟨h1, _⟩ | ⟨j, y, h1, h2, h3⟩
 ·
  exact ⟨h1, by unfold zci; rw [if_pos h1]⟩
 ·
  exact absurd h2 (h y (List.mem_of_getElem? h1))
theorem fS_is {l : List Sg} (hd : (l.map fun x => x.f0).Nodup) {x : Sg} (hx : x ∈ l) : zci x.f0 l = x := by
 obtain ⟨_, h1, h2⟩ := fS_in hx rfl
 exact uniq (fun x : Sg => x.f0) hd _ h1 _ hx h2
theorem zdD (s : ByteArray) : ∀ (l : List Mb) (i : Nat), (idxM s l i < 0 ∧ ∀ x ∈ l, x.f0 ≠ s) ∨ ∃ j x, l[j]? = some x ∧ x.f0 = s ∧ idxM s l i = ((i + j : Nat) : Int)
 | [], i => .inl ⟨by simp [idxM], fun x h => by cases h⟩
 | y :: r, i => by
  unfold idxM
  by_cases hy : y.f0.toList = s.toList
  ·
   rw [if_pos hy]; exact .inr ⟨0, y, rfl, bl hy, by simp⟩
  ·
   rw [if_neg hy]
   rcases zdD s r (i + 1) with ⟨h1, h2⟩ | ⟨j, x, h1, h2, h3⟩
   ·
    refine .inl ⟨h1, fun x hx => ?_⟩
    rcases List.mem_cons.1 hx with rfl | hx
    ·
     exact fun e => hy (by rw [e])
    ·
     exact h2 x hx
   ·
    exact .inr ⟨j + 1, x, h1, h2, by rw [h3]; congr 1; omega⟩
theorem fM_in {nm : ByteArray} {l : List Mb} {x : Mb} (hx : x ∈ l) (hn : x.f0 = nm) : ¬ idxM nm l 0 < 0 ∧ zcO nm l ∈ l ∧ (zcO nm l).f0 = nm := by
 rcases zdD nm l 0 with ⟨_, h2⟩ | ⟨j, y, h1, h2, h3⟩
 ·
  exact absurd hn (h2 x hx)
 ·
  rw [Nat.zero_add] at h3
  have h4 : ¬ idxM nm l 0 < 0 := by omega
  have h5 : zcO nm l = y := by
   unfold zcO
   rw [if_neg h4, h3]
   unfold zaN
   rw [Int.toNat_natCast, List.getD_eq_getElem?_getD, h1]; rfl
  rw [h5]
  exact ⟨h4, List.mem_of_getElem? h1, h2⟩
theorem fM_is {l : List Mb} (hd : (l.map fun x => x.f0).Nodup) {x : Mb} (hx : x ∈ l) : zcO x.f0 l = x := by
 obtain ⟨_, h1, h2⟩ := fM_in hx rfl
 exact uniq (fun x : Mb => x.f0) hd _ h1 _ hx h2
theorem zdL (k : ByteArray) : ∀ (l : List ByteArray) (n : Nat), nidx k l n = none → k ∉ l
 | [], _, _ => by simp
 | x :: r, n, h => by
  unfold nidx at h
  by_cases hk : k = x
  ·
   rw [if_pos hk] at h; cases h
  ·
   rw [if_neg hk] at h
   exact fun hm => (List.mem_cons.1 hm).elim hk (zdL k r (n + 1) h)
abbrev nmS : Sg → ByteArray := fun x => x.f0
theorem zgv {out : List Sg} (m : Sg) (hd : (out.map nmS).Nodup) (x : Sg) : x ∈ putS out m ↔ x = m ∨ (x ∈ out ∧ x.f0 ≠ m.f0) := by
 unfold putS
 cases h : nidx m.f0 (out.map (·.f0)) 0 with
 | none =>
  have h1 := zdL _ _ _ h
  simp only [List.mem_append, List.mem_singleton]
  constructor
  ·
   rintro (h2 | h2)
   ·
    exact .inr ⟨h2, fun e => h1 (List.mem_map.2 ⟨x, h2, e⟩)⟩
   ·
    exact .inl h2
  ·
   rintro (h2 | h2)
   ·
    exact .inr h2
   ·
    exact .inl h2.1
 | some p =>
  obtain ⟨_, h2, h3⟩ := zdn _ _ 0 p h
  simp only [Nat.sub_zero, List.getElem?_map] at h3
  obtain ⟨y, hy, hyn⟩ := Option.map_eq_some_iff.1 h3
  have hp : p < out.length := (List.getElem?_eq_some_iff.1 hy).1
  constructor
  ·
   intro hx
   obtain ⟨q, hq⟩ := List.getElem?_of_mem hx
   rw [List.getElem?_set] at hq
   by_cases hpq : p = q
   ·
    rw [if_pos hpq, if_pos hp] at hq
    exact .inl (Option.some.inj hq).symm
   ·
    rw [if_neg hpq] at hq
    refine .inr ⟨List.mem_of_getElem? hq, fun e => hpq ?_⟩
    refine (List.getElem?_inj (by simpa using hp) hd).1 ?_
    rw [List.getElem?_map, List.getElem?_map, hy, hq]
    simp [nmS, hyn, e]
  ·
   rintro (rfl | ⟨hx, he⟩)
   ·
    exact List.mem_of_getElem? (i := p) (by rw [List.getElem?_set, if_pos rfl, if_pos hp])
   ·
    obtain ⟨q, hq⟩ := List.getElem?_of_mem hx
    refine List.mem_of_getElem? (i := q) ?_
    rw [List.getElem?_set, if_neg, hq]
    rintro rfl
    rw [hy] at hq
    cases hq
    exact he hyn
theorem zhz {out : List Sg} (m : Sg) (hd : (out.map nmS).Nodup) : ((putS out m).map nmS).Nodup := by
 have h := zcV out m
 show ((putS out m).map (fun x => x.f0)).Nodup
 rw [h]
 cases hn : nidx m.f0 (out.map (·.f0)) 0 with
 | some p => exact hd
 | none =>
  rw [List.nodup_append]
  refine ⟨hd, by simp, fun a ha b hb e => ?_⟩
  rw [List.mem_singleton] at hb
  subst hb
  exact zdL _ _ _ hn (e ▸ ha)
theorem foldS : ∀ (ms out : List Sg), (out.map nmS).Nodup → (ms.map nmS).Nodup → ((ms.foldl putS out).map nmS).Nodup ∧ ∀ x, x ∈ ms.foldl putS out ↔ x ∈ ms ∨ (x ∈ out ∧ x.f0 ∉ ms.map nmS)
 | [], out, hd, _ => ⟨hd, fun x => by simp⟩
 | m :: r, out, hd, hm => by
  rw [List.map_cons, List.nodup_cons] at hm
  obtain ⟨h1, h2⟩ := foldS r (putS out m) (zhz m hd) hm.2
  refine ⟨h1, fun x => ?_⟩
  rw [List.foldl_cons, h2 x, zgv m hd x]
  simp only [List.mem_cons, List.map_cons]
  constructor
  ·
   rintro (h | ⟨rfl | ⟨h3, h4⟩, h5⟩)
   ·
    exact .inl (.inr h)
   ·
    exact .inl (.inl rfl)
   ·
    exact .inr ⟨h3, fun h => h.elim h4 h5⟩
  ·
   rintro ((rfl | h) | ⟨h3, h4⟩)
   ·
    exact .inr ⟨.inl rfl, hm.1⟩
   ·
    exact .inl h
   ·
    exact .inr ⟨.inr ⟨h3, fun e => h4 (.inl e)⟩, fun e => h4 (.inr e)⟩
theorem zec (nm : ByteArray) (l : List ByteArray) : hasN nm l = true ↔ nm ∈ l := by
 rw [zfa]
 simp only [List.any_eq_true, decide_eq_true_eq]
 exact ⟨fun ⟨x, h1, h2⟩ => bl h2 ▸ h1, fun h => ⟨nm, h, rfl⟩⟩
theorem zfX {t : List Cl} {mb : List Mb} {fs : List ByteArray} {nm ty : ByteArray} (h : zch t mb fs nm ty = 0) : arB mb nm = false ∧ nm ∉ fs := by
 unfold zch at h
 by_cases h1 : nm.toList.isEmpty = true
 ·
  rw [if_pos h1] at h; exact absurd h d9
 rw [if_neg h1] at h
 by_cases h2 : ¬ zbS t nm ty = 0
 ·
  rw [if_pos h2] at h; exact absurd h h2
 rw [if_neg h2] at h
 by_cases h3 : arB mb nm = true ∨ hasN nm fs = true
 ·
  rw [if_pos h3] at h; exact absurd h d9
 ·
  exact ⟨by cases hb : arB mb nm with | false => rfl | true => exact absurd (.inl hb) h3, fun e => h3 (.inr ((zec nm fs).2 e))⟩
theorem zdW (t : List Cl) (mb : List Mb) : ∀ (l : List Vr) (fs : List ByteArray), zb7 t mb l fs = 0 → fs.Nodup → (fs ++ l.map fun x => x.f0).Nodup ∧ ∀ v ∈ l, arB mb v.f0 = false
 | [], fs, _, hd => ⟨by simpa using hd, fun v h => by cases h⟩
 | v :: r, fs, h, hd => by
  unfold zb7 at h
  by_cases h0 : zch t mb fs v.f0 v.f1 = 0
  ·
   rw [if_pos h0] at h
   obtain ⟨h1, h2⟩ := zfX h0
   obtain ⟨h3, h4⟩ := zdW t mb r (fs ++ [v.f0]) h (by
    rw [List.nodup_append]
    exact ⟨hd, by simp, fun a ha b hb e => by rw [List.mem_singleton] at hb; subst hb; exact h2 (e ▸ ha)⟩)
   refine ⟨by simpa using h3, fun w hw => ?_⟩
   rcases List.mem_cons.1 hw with rfl | hw
   ·
    exact h1
   ·
    exact h4 w hw
  ·
   rw [if_neg h0] at h; exact absurd h h0
structure MOk (t : List Cl) (su : ByteArray) (fs : List ByteArray) (m : Sg) : Prop where
 fb : zbz t su m.f0 = false
 fs : m.f0 ∉ fs
 over : (methodAt t m.f0 (lineL t su)).isSome = true → (methM t m.f0 (methodAt t m.f0 (lineL t su))).f2 = m.f2 ∧ likeV (methM t m.f0 (methodAt t m.f0 (lineL t su))).f1 m.f1 = true
theorem zfF {t : List Cl} {su : ByteArray} {fs ms : List ByteArray} {m : Sg} (h : zbQ t su fs ms m.f0 m.f1 m.f2 = 0) : MOk t su fs m ∧ m.f0 ∉ ms := by
 unfold zbQ at h
 by_cases h1 : nameB m.f0 = false
 ·
  rw [if_pos h1] at h; exact absurd h d9
 rw [if_neg h1] at h
 by_cases h2 : ¬ zcr t m.f1 [] = 0
 ·
  rw [if_pos h2] at h; exact absurd h h2
 rw [if_neg h2] at h
 by_cases h3 : ¬ zbS t ⟨#[]⟩ m.f2 = 0
 ·
  rw [if_pos h3] at h; exact absurd h h3
 rw [if_neg h3] at h
 by_cases h4 : zbz t su m.f0 = true ∨ hasN m.f0 fs = true ∨ hasN m.f0 ms = true
 ·
  rw [if_pos h4] at h; exact absurd h d9
 rw [if_neg h4] at h
 by_cases h5 : (methodAt t m.f0 (lineL t su)).isSome = true ∧ (¬ (methM t m.f0 (methodAt t m.f0 (lineL t su))).f2.toList = m.f2.toList ∨ likeV (methM t m.f0 (methodAt t m.f0 (lineL t su))).f1 m.f1 = false)
 ·
  rw [if_pos h5] at h; exact absurd h d9
 refine ⟨⟨?_, fun e => h4 (.inr (.inl ((zec _ _).2 e))), fun hs => ⟨?_, ?_⟩⟩, fun e => h4 (.inr (.inr ((zec _ _).2 e)))⟩
 ·
  cases hb : zbz t su m.f0 with
  | false => rfl
  | true => exact absurd (.inl hb) h4
 ·
  exact bl (Classical.byContradiction fun hc => h5 ⟨hs, .inl hc⟩)
 ·
  cases hb : likeV (methM t m.f0 (methodAt t m.f0 (lineL t su))).f1 m.f1 with
  | true => rfl
  | false => exact absurd ⟨hs, .inr hb⟩ h5
theorem zdE (t : List Cl) (su : ByteArray) (fs : List ByteArray) : ∀ (l : List Sg) (ms : List ByteArray), zb1 t su fs l ms = 0 → ms.Nodup → (ms ++ l.map nmS).Nodup ∧ ∀ m ∈ l, MOk t su fs m
 | [], ms, _, hd => ⟨by simpa using hd, fun v h => by cases h⟩
 | m :: r, ms, h, hd => by
  unfold zb1 at h
  by_cases h0 : zbQ t su fs ms m.f0 m.f1 m.f2 = 0
  ·
   rw [if_pos h0] at h
   obtain ⟨h1, h2⟩ := zfF h0
   obtain ⟨h3, h4⟩ := zdE t su fs r (ms ++ [m.f0]) h (by
    rw [List.nodup_append]
    exact ⟨hd, by simp, fun a ha b hb e => by rw [List.mem_singleton] at hb; subst hb; exact h2 (e ▸ ha)⟩)
   refine ⟨by simpa [nmS] using h3, fun w hw => ?_⟩
   rcases List.mem_cons.1 hw with rfl | hw
   ·
    exact h1
   ·
    exact h4 w hw
  ·
   rw [if_neg h0] at h; exact absurd h h0
abbrev FN (t : List Cl) (nm : ByteArray) : List ByteArray := (za2 t nm).map fun x => x.f0
abbrev MN (t : List Cl) (nm : ByteArray) : List ByteArray := (zbA t nm).map nmS
theorem zcX (t : List Cl) (c nm : ByteArray) : zbz t c nm = true ↔ nm ∈ FN t c := by
 unfold zbz
 constructor
 ·
  intro h
  rcases zdz nm (za2 t c) 0 with ⟨h1, _⟩ | ⟨j, x, h1, h2, _⟩
  ·
   simp [h1] at h
  ·
   exact List.mem_map.2 ⟨x, List.mem_of_getElem? h1, h2⟩
 ·
  intro h
  obtain ⟨x, h1, h2⟩ := List.mem_map.1 h
  simpa using (fV_in h1 h2).1
theorem zdu (t : List Cl) (c : ByteArray) : (mem t c).map (fun x : Mb => x.f0) = FN t c ++ MN t c := by
 unfold mem
 rw [List.map_append, List.map_map, List.map_map]
 rfl
theorem zgb (t : List Cl) (c nm : ByteArray) : arB (mem t c) nm = true ↔ nm ∈ FN t c ++ MN t c := by
 rw [← zdu]
 unfold arB
 constructor
 ·
  intro h
  rcases zdD nm (mem t c) 0 with ⟨h1, _⟩ | ⟨j, x, h1, h2, _⟩
  ·
   simp [h1] at h
  ·
   exact List.mem_map.2 ⟨x, List.mem_of_getElem? h1, h2⟩
 ·
  intro h
  obtain ⟨x, h1, h2⟩ := List.mem_map.1 h
  simpa using (fM_in h1 h2).1
structure MemOk (t : List Cl) (c : ByteArray) : Prop where
 fn : (FN t c).Nodup
 mn : (MN t c).Nodup
 dj : ∀ x ∈ FN t c, x ∉ MN t c
 at_ : ∀ m ∈ zbA t c, (methodAt t m.f0 (lineL t c)).isSome = true ∧ methM t m.f0 (methodAt t m.f0 (lineL t c)) = m
 no : ∀ x, x ∉ MN t c → methodAt t x (lineL t c) = none
structure OwnOk (t : List Cl) (i : Nat) : Prop where
 fs : ((clsAt t i).f2.map fun x => x.f0).Nodup
 up : ∀ v ∈ (clsAt t i).f2, v.f0 ∉ FN t (clsAt t i).f1 ∧ v.f0 ∉ MN t (clsAt t i).f1
 ms : ((clsAt t i).f3.map nmS).Nodup
 ok : ∀ m ∈ (clsAt t i).f3, MOk t (clsAt t i).f1 ((clsAt t i).f2.map fun x => x.f0) m
theorem Good.ownOk {t : List Cl} (g : Good t) {i : Nat} (hi : i < t.length) : OwnOk t i := by
 have h := g.own i hi
 unfold ownF at h
 by_cases h0 : zb7 t (mem t (clsAt t i).f1) (clsAt t i).f2 [] = 0
 ·
  rw [if_pos h0] at h
  obtain ⟨h1, h2⟩ := zdW t _ _ [] h0 List.nodup_nil
  obtain ⟨h3, h4⟩ := zdE t _ _ _ [] h List.nodup_nil
  refine ⟨by simpa using h1, fun v hv => ?_, by simpa using h3, h4⟩
  have h5 : ¬ v.f0 ∈ FN t (clsAt t i).f1 ++ MN t (clsAt t i).f1 := fun e => by
   have := (zgb t (clsAt t i).f1 v.f0).2 e
   rw [h2 v hv] at this
   cases this
  exact ⟨fun e => h5 (List.mem_append_left _ e), fun e => h5 (List.mem_append_right _ e)⟩
 ·
  rw [if_neg h0] at h; exact absurd h h0
theorem Good.memOk {t : List Cl} (g : Good t) (c : ByteArray) : MemOk t c := by
 refine g.zhL (P := MemOk t) (fun nm h => ?_) (fun i hi ih => ?_) c
 ·
  have hl := zgg h
  have hf : za2 t nm = [] := by unfold za2 zbM; rw [hl]; rfl
  have hm : zbA t nm = [] := by unfold zbA zeu; rw [hl]; rfl
  refine ⟨by simp [FN, hf], by simp [MN, hm], by simp [FN, hf], by simp [hm], fun x _ => by rw [hl]; rfl⟩
 ·
  have o := g.ownOk hi
  have hf := g.fields hi
  have hm := g.meths hi
  obtain ⟨f1, f2⟩ := foldS (clsAt t i).f3 (zbA t (clsAt t i).f1) ih.mn o.ms
  rw [← hm] at f1 f2
  have hFN : FN t (clsAt t i).f0 = FN t (clsAt t i).f1 ++ (clsAt t i).f2.map fun x => x.f0 := by unfold FN; rw [hf, List.map_append]
  refine ⟨?_, f1, fun x hx hxm => ?_, fun m hmm => ?_, fun x hx => ?_⟩
  ·
   rw [hFN, List.nodup_append]
   refine ⟨ih.fn, o.fs, fun a ha b hb e => ?_⟩
   obtain ⟨v, hv, hvb⟩ := List.mem_map.1 hb
   exact (o.up v hv).1 (by rw [hvb, ← e]; exact ha)
  ·
   rw [hFN] at hx
   obtain ⟨m, hmm, hmx⟩ := List.mem_map.1 hxm
   replace hmx : m.f0 = x := hmx
   subst hmx
   rcases (f2 m).1 hmm with h1 | ⟨h1, _⟩
   ·
    have ok := o.ok m h1
    rcases List.mem_append.1 hx with h2 | h2
    ·
     have := (zcX t (clsAt t i).f1 m.f0).2 h2
     rw [ok.fb] at this
     cases this
    ·
     exact ok.fs h2
   ·
    rcases List.mem_append.1 hx with h2 | h2
    ·
     exact ih.dj _ h2 (List.mem_map.2 ⟨m, h1, rfl⟩)
    ·
     obtain ⟨v, hv, hvb⟩ := List.mem_map.1 h2
     exact (o.up v hv).2 (by rw [hvb]; exact List.mem_map.2 ⟨m, h1, rfl⟩)
  ·
   rw [g.zgU hi]
   rcases (f2 m).1 hmm with h1 | ⟨h1, h2⟩
   ·
    rw [if_neg (fS_in h1 rfl).1]
    exact ⟨rfl, fS_is o.ms h1⟩
   ·
    rw [if_pos (zgZ (fun x hx e => h2 (List.mem_map.2 ⟨x, hx, e⟩))).1]
    exact ih.at_ m h1
  ·
   rw [g.zgU hi]
   have h1 : ∀ y ∈ (clsAt t i).f3, y.f0 ≠ x := fun y hy e => hx (List.mem_map.2 ⟨y, (f2 y).2 (.inl hy), e⟩)
   rw [if_pos (zgZ h1).1]
   refine ih.no x fun hxm => ?_
   obtain ⟨m, hmm, hmx⟩ := List.mem_map.1 hxm
   replace hmx : m.f0 = x := hmx
   refine hx (List.mem_map.2 ⟨m, (f2 m).2 (.inr ⟨hmm, fun e => ?_⟩), hmx⟩)
   obtain ⟨y, hy, hyx⟩ := List.mem_map.1 e
   exact h1 y hy (hyx.trans hmx)
theorem zfQ {α β : Type} {F : α → Nat → Option β} {v : α → β} : ∀ l : List α, (∀ c ∈ l, Evn (F c) (v c)) → ∃ K, ∀ k, K ≤ k → ∀ c ∈ l, F c k = some (v c)
 | [], _ => ⟨0, fun _ _ c h => by cases h⟩
 | x :: r, h => by
  obtain ⟨K1, h1⟩ := h x List.mem_cons_self
  obtain ⟨K2, h2⟩ := zfQ r (fun c hc => h c (List.mem_cons_of_mem _ hc))
  refine ⟨max K1 K2, fun k hk c hc => ?_⟩
  rcases List.mem_cons.1 hc with rfl | hc
  ·
   exact h1 k o9
  ·
   exact h2 k o9 c hc
theorem zho {c : Cl} (h : okC c) : zal.fits c = true := by
 obtain ⟨h0, h1, h2, h3, h4, h5⟩ := h
 unfold zal.fits
 simp only [Bool.and_eq_true, decide_eq_true_eq, List.all_eq_true]
 refine ⟨⟨⟨⟨⟨by omega, by omega⟩, by omega⟩, fun v hv => ?_⟩, by omega⟩, fun m hm => ?_⟩
 ·
  have := h4 v hv; omega
 ·
  obtain ⟨q0, q1, q2, q3⟩ := h5 m hm
  exact ⟨⟨⟨by omega, by omega⟩, by omega⟩, fun p hp => by have := q3 p hp; omega⟩
theorem zgC {t : List Cl} (ht : TS t) : Evn (fun k => zal.f k t) ((zbP t (mem t)).1, ((zbP t (mem t)).2 : Int)) := by
 obtain ⟨K, hK⟩ := zfQ (F := fun (c : Cl) k => zaj.f k t c.f1) (v := fun c => mem t c.f1) t (fun c _ => zcY ht.toTB c.f1)
 refine ⟨K, fun k hk => ?_⟩
 have hm : ∀ c ∈ t, zal.mb k t c.f1 = mem t c.f1 := fun c hc => by unfold zal.mb; rw [hK k hk c hc]; rfl
 have ho : zal.ok k t = true := by
  unfold zal.ok
  simp only [Bool.and_eq_true, decide_eq_true_eq, List.all_eq_true]
  refine ⟨ht.toTB.small, fun c hc => ⟨⟨⟨zho (ht.ok c hc), ?_⟩, ?_⟩, ?_⟩⟩
  ·
   have := ht.toTB.fields c.f1; omega
  ·
   rw [hK k hk c hc]; rfl
  ·
   rw [hm c hc]; have := zep ht.toTB c.f1; omega
 show zal.f k t = _
 unfold zal.f
 rw [if_pos ho, zal.zgX t (zal.mb k t) (mem t) (fun i hi => hm _ (zdA t i hi))]
theorem zgF {t : List Cl} (ht : TB t) (c nm : ByteArray) : Evn (fun k => zaQ.f k t c nm) (arN (mem t c) nm, arB (mem t c) nm) := by
 refine Evn.bind (h := fun k L => if L.length < 4398046511104 then some (arN L nm, arB L nm) else none) (zcY ht c) ?_
 exact Evn.pos (by have := zep ht c; omega) (Evn.ret _)
theorem zhc {t : List Cl} (ht : TB t) (c : ByteArray) : zaU.f t c = some (za2 t c) := by
 unfold zaU.f
 rw [if_pos ⟨by have := ht.len; omega, by have := ht.fields c; omega⟩]
theorem zfJ {t : List Cl} (ht : TB t) (c : ByteArray) : zaw.f t c = some (zbA t c) := by
 unfold zaw.f
 rw [if_pos ⟨ht.small, by have := ht.all c; omega⟩]
theorem zhq {t : List Cl} (ht : TB t) (c nm : ByteArray) : za3.f t c nm = some (zb6 t c nm, zbz t c nm) := by
 unfold za3.f
 rw [if_pos ⟨by have := ht.len; omega, by have := ht.fields c; omega⟩]
abbrev mAt (t : List Cl) (c nm : ByteArray) : Option Nat := methodAt t nm (lineL t c)
theorem zgJ {t : List Cl} (ht : TB t) (c nm : ByteArray) : zaX.f t c nm = some ((methM t nm (mAt t c nm)).f0, (methM t nm (mAt t c nm)).f1, (methM t nm (mAt t c nm)).f2, methC t (mAt t c nm), (mAt t c nm).isSome) := by
 unfold zaX.f
 rw [if_pos ht.small]
theorem zhu (a n : Int) (h : 0 < n) (hn : n ≤ 9) (ha : (Lit.int .i64 a).wf = true) : ∃ p, zaY.f a n = some p ∧ 0 ≤ p ∧ p < n := by
 have h1 := Int.tmod_lt_of_pos a h
 have h3 : -n < a.tmod n := by
  have := Int.tmod_lt_of_pos (-a) h
  rw [Int.neg_tmod] at this
  omega
 unfold zaY.f
 rw [if_neg o9, if_neg o9]
 by_cases h2 : a.tmod n < 0
 ·
  rw [if_pos h2]
  exact ⟨_, rfl, by unfold wrap64; omega, by unfold wrap64; omega⟩
 ·
  rw [if_neg h2]; exact ⟨_, rfl, by omega, h1⟩
theorem zhD {t : List Cl} {c nm : ByteArray} {p : Nat} (h : mAt t c nm = some p) : p < t.length := zbH t _ _ _ _ (List.mem_of_find?_eq_some h)
theorem MemOk.nd {t : List Cl} {c : ByteArray} (h : MemOk t c) : ((mem t c).map fun x : Mb => x.f0).Nodup := by
 rw [zdu, List.nodup_append]
 exact ⟨h.fn, h.mn, fun a ha b hb e => h.dj a ha (e ▸ hb)⟩
theorem zf7 {t : List Cl} {c : ByteArray} {x : Mb} (hx : x ∈ mem t c) : (∃ v ∈ za2 t c, x = ⟨v.f0, -1⟩) ∨ ∃ m ∈ zbA t c, x = ⟨m.f0, (m.f1.length : Int)⟩ := by
 unfold mem at hx
 rcases List.mem_append.1 hx with h | h
 ·
  obtain ⟨v, hv, e⟩ := List.mem_map.1 h
  exact .inl ⟨v, hv, e.symm⟩
 ·
  obtain ⟨m, hm, e⟩ := List.mem_map.1 h
  exact .inr ⟨m, hm, e.symm⟩
section
variable {t : List Cl} (g : Good t)
include g
theorem Good.ar (c : ByteArray) {x : Mb} (hx : x ∈ mem t c) : arN (mem t c) x.f0 = x.f1 ∧ arB (mem t c) x.f0 = true := by
 have h := fM_is (g.memOk c).nd hx
 exact ⟨by unfold arN; rw [h], (zgb t c x.f0).2 (by rw [← zdu]; exact List.mem_map.2 ⟨x, hx, rfl⟩)⟩
theorem Good.zhg (c : ByteArray) {v : Vr} (hv : v ∈ za2 t c) : zbz t c v.f0 = true ∧ mAt t c v.f0 = none ∧ zb6 t c v.f0 = v.f1 := by
 have h1 : v.f0 ∈ FN t c := List.mem_map.2 ⟨v, hv, rfl⟩
 exact ⟨(zcX t c _).2 h1, (g.memOk c).no _ ((g.memOk c).dj _ h1), by unfold zb6; rw [fV_is (g.memOk c).fn hv]⟩
theorem Good.zgu (c : ByteArray) {m : Sg} (hm : m ∈ zbA t c) : zbz t c m.f0 = false ∧ (mAt t c m.f0).isSome = true ∧ methM t m.f0 (mAt t c m.f0) = m ∧ methC t (mAt t c m.f0) ≠ ⟨#[]⟩ := by
 obtain ⟨h1, h2⟩ := (g.memOk c).at_ m hm
 refine ⟨?_, h1, h2, ?_⟩
 ·
  cases hb : zbz t c m.f0 with
  | false => rfl
  | true => exact absurd (List.mem_map.2 ⟨m, hm, rfl⟩) ((g.memOk c).dj _ ((zcX t c _).1 hb))
 ·
  obtain ⟨p, hp⟩ := Option.isSome_iff_exists.1 h1
  show methC t (mAt t c m.f0) ≠ _
  rw [show mAt t c m.f0 = some p from hp]
  exact g.ne p (zhD hp)
end
section
variable {t : List Cl} (g : Good t) (ht : TS t) (c : ByteArray)
include g ht
theorem zhA (i : Nat) (hi : i < (mem t c).length) (hn : Evn (fun k => chaperonlaw05_TableOnce.l0 k t true c (mem t c) (wrap64 ((i : Int) + 1))) true) :
  ∀ (d j : Nat), d = i - j → j ≤ i → Evn (fun k => chaperonlaw05_TableOnce.l1 k t true c (mem t c) (i : Int) (j : Int)) true := by
 have hl := zep ht.toTB c
 intro d
 induction d with
 | zero =>
  intro j hd hj
  obtain rfl : j = i := by omega
  refine Evn.succ (Evn.neg o9 (Evn.pos o9 (Evn.pos o9 ?_)))
  rw [rdM _ j hi]
  obtain ⟨x, hx⟩ : ∃ x, x = (mem t c)[j] := ⟨_, rfl⟩
  have hxm : x ∈ mem t c := by rw [hx]; exact List.getElem_mem hi
  rw [← hx]
  obtain ⟨a1, a2⟩ := g.ar c hxm
  refine Evn.bind (zgF ht.toTB c x.f0) (Evn.cbind (zhq ht.toTB c x.f0) (Evn.cbind (zgJ ht.toTB c x.f0) ?_))
  refine Evn.pos a2 (Evn.pos a1 ?_)
  rw [a1]
  rcases zf7 hxm with ⟨v, hv, e⟩ | ⟨m, hm, e⟩
  ·
   subst e
   obtain ⟨b1, b2, b3⟩ := g.zhg c hv
   refine Evn.neg (by simp [b1, b2]) (Evn.neg (by simp [b1]) (Evn.neg (by simp [b2]) hn))
  ·
   subst e
   obtain ⟨b1, b2, b3, b4⟩ := g.zgu c hm
   refine Evn.neg (by simp [b1, b2]) (Evn.neg ?_ (Evn.pos b2 (Evn.pos ?_ (Evn.neg (fun h => b4 (bl0 h)) hn))))
   ·
    have : ¬ ((m.f1.length : Int) = -1) := by omega
    simp [b1, this]
   ·
    show (((methM t m.f0 (mAt t c m.f0)).f1.length : Nat) : Int) = (m.f1.length : Int)
    rw [b3]
 | succ d ih =>
  intro j hd hj
  have hji : j < i := by omega
  refine Evn.succ (Evn.pos o9 (Evn.pos o9 (Evn.pos o9 (Evn.pos o9 (Evn.pos o9 (Evn.neg ?_ ?_))))))
  ·
   rw [rdM _ j o9, rdM _ i hi]
   intro e
   have hnd := (g.memOk c).nd
   have h1 : ((mem t c).map fun x : Mb => x.f0)[j]? = ((mem t c).map fun x : Mb => x.f0)[i]? := by
    rw [List.getElem?_map, List.getElem?_map, List.getElem?_eq_getElem (show j < (mem t c).length by omega), List.getElem?_eq_getElem hi]
    simp [bl e]
   have h2 := (List.getElem?_inj (by rw [List.length_map]; omega) hnd).1 h1
   omega
  ·
   rw [w1 hji o9]
   exact ih (j + 1) o9 o9
theorem zhe : ∀ (d i : Nat), d = (mem t c).length - i → i ≤ (mem t c).length → Evn (fun k => chaperonlaw05_TableOnce.l0 k t true c (mem t c) (i : Int)) true := by
 have hl := zep ht.toTB c
 intro d
 induction d with
 | zero =>
  intro i hd hi
  refine Evn.succ (Evn.neg o9 (Evn.pos rfl (Evn.cbind (zhc ht.toTB c) (Evn.cbind (zfJ ht.toTB c) ((Evn.ret _).val ?_)))))
  have h1 := ht.toTB.fields c
  have h2 := ht.toTB.meths c
  have h3 : (mem t c).length = (za2 t c).length + (zbA t c).length := by simp [mem]
  have h4 : wrap64 (((za2 t c).length : Int) + ((zbA t c).length : Int)) = ((mem t c).length : Int) := by unfold wrap64; omega
  rw [h4]
  simp
 | succ d ih =>
  intro i hd hi
  have hil : i < (mem t c).length := by omega
  refine Evn.succ (Evn.pos o9 (zhA g ht c i hil ?_ i 0 o9 o9))
  rw [w1 hil o9]
  exact ih (i + 1) o9 o9
end
theorem TableOnce : chaperonlaw05_TableOnce.Pure := by
 intro t a hlen _ ha
 refine Evn.ex (g := fun k => chaperonlaw05_TableOnce.f k t a) ?_
 refine Evn.cbind (a := zaO.f) (v := true) rfl ?_
 obtain ⟨b, h1, h2⟩ := zgK t
 have hj : Evn (fun k => chaperonlaw05_TableOnce.j0 k t a true true) true := Evn.succ (Evn.congr (g' := fun _ => some true) (fun k => rfl) (Evn.ret _))
 refine Evn.bind h1 ?_
 cases b with
 | true => exact Evn.pos rfl hj
 | false =>
  have ht := h2 rfl
  refine Evn.neg s9 ?_
  by_cases h0 : t.length = 0
  ·
   exact Evn.pos o9 hj
  ·
   refine Evn.neg o9 (Evn.bind (zgC ht) ?_)
   by_cases hc : (zbP t (mem t)).1 = 0 ∧ ((zbP t (mem t)).2 : Int) = 0
   ·
    have g := zhv hc.1
    rw [hc.1, hc.2]
    show Evn (fun k => chaperonlaw05_TableOnce.j0 k t a true false) true
    have hl := ht.toTB.len
    obtain ⟨p, hp, p0, p1⟩ := zhu a t.length o9 o9 ha
    refine Evn.succ ?_
    show Evn (fun k => (zaY.f a (t.length : Int)).bind fun p => (if 0 ≤ p then (if p < (t.length : Int) then ((zaj.f k t ((zaf t p).f0)).bind fun L => (chaperonlaw05_TableOnce.l0 k t true ((zaf t p).f0) L 0)) else none) else none)) true
    refine Evn.cbind (h := fun k p => (if 0 ≤ p then (if p < (t.length : Int) then ((zaj.f k t ((zaf t p).f0)).bind fun L => (chaperonlaw05_TableOnce.l0 k t true ((zaf t p).f0) L 0)) else none) else none)) hp (Evn.pos p0 (Evn.pos p1 ?_))
    exact Evn.bind (zcY ht.toTB _) (zhe g ht _ _ 0 rfl o9)
   ·
    have : (!((zbP t (mem t)).1 == 0) || (!(((zbP t (mem t)).2 : Int) == 0))) = true := by
     simp only [Bool.or_eq_true, Bool.not_eq_true', beq_eq_false_iff_ne]
     exact Classical.byContradiction fun h => hc ⟨Classical.byContradiction fun e => h (.inl e), Classical.byContradiction fun e => h (.inr e)⟩
    rw [this]
    exact hj
end Go.Proofs.YtgcfmllgomikoaaDoor.Pure
end
