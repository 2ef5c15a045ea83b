/- Parts of the proof of one statement, packed: what the program's functions compute. No conditions. -/
import Derived.Test.YtgcfmllgomikoaaDoorKTA1
import Derived.Test.YtgcfmllgomikoaaDoorKTA2
import Derived.Test.YtgcfmllgomikoaaDoorKTA3
import Derived.Below
set_option linter.unusedSimpArgs false
set_option linter.unusedVariables false
set_option maxRecDepth 100000
set_option maxHeartbeats 8000000
section
namespace Go.Proofs.YtgcfmllgomikoaaDoor.PAll
open Go.RowKit Go.Proofs.YtgcfmllgomikoaaDoorW.PrintWords Go.Proofs.YtgcfmllgomikoaaDoorW.PrintLast Go.Proofs.YtgcfmllgomikoaaDoorW.za2
attribute [local go_sem] zbj zbi zbw zbx za7 za8 zbh zbg
attribute [local go_sem high] eqA51
mutual
def chaperonlaw05_TableAbove.j0 : Nat → List (S45) → Int → Bool → Bool → Option (Bool)
 | 0, _, _, _, _ => none
 | k + 1, x0, x1, x5, x38 => if x38 = true then (some x5) else ((za5.f x1 (x0.length : Int)).bind fun t193 => (if 0 ≤ t193 then (if t193 < (x0.length : Int) then ((za4.f x0 ((zab x0 t193).f0)).bind fun t196 => (if (t196.length : Int) = 0 then (none) else (if (t196.length : Int) > (x0.length : Int) then (none) else (if 0 < (t196.length : Int) then (chaperonlaw05_TableAbove.j1 k x0 x5 t196 ((rdOf ByteArray.empty t196 0).toList != ((zab x0 t193).f0).toList) ((zab x0 t193).f0) ((zab x0 t193).f1) ((zab x0 t193).f2) ((zab x0 t193).f3)) else (none))))) else (none)) else (none)))
def chaperonlaw05_TableAbove.j1 : Nat → List (S45) → Bool → List ByteArray → Bool → ByteArray → ByteArray → List (S35) → List (S26) → Option (Bool)
 | 0, _, _, _, _, _, _, _, _ => none
 | k + 1, x0, x5, x7, x68, x196000, x196001, x196002, x196003 => if x68 = true then (none) else (if 0 ≤ (wrap64 ((x7.length : Int) - 1)) then (if (wrap64 ((x7.length : Int) - 1)) < (x7.length : Int) then ((zbv.f x0 (rdOf ByteArray.empty x7 (wrap64 ((x7.length : Int) - 1)))).bind fun bt201 => (if bt201.2 = true then (if bt201.1 < 0 then (none) else (if bt201.1 ≥ (x0.length : Int) then (none) else (if 0 ≤ bt201.1 then (if bt201.1 < (x0.length : Int) then (if ((zab x0 bt201.1).f1).toList = ([] : List UInt8) then (chaperonlaw05_TableAbove.j2 k x0 x5 (((x7.length : Int) == 1) != (x196001.toList == ([] : List UInt8))) x196000 x196001 x196002 x196003) else (none)) else (none)) else (none)))) else (none))) else (none)) else (none))
def chaperonlaw05_TableAbove.j2 : Nat → List (S45) → Bool → Bool → ByteArray → ByteArray → List (S35) → List (S26) → Option (Bool)
 | 0, _, _, _, _, _, _, _ => none
 | k + 1, x0, x5, x108, x196000, x196001, x196002, x196003 => if x108 = true then (none) else (if x196001.toList = ([] : List UInt8) then (some x5) else ((zaq.f k x0 x196001).bind fun t204 => (chaperonlaw05_TableAbove.l0 k x0 x5 t204 0 x196000 x196001 x196002 x196003)))
def chaperonlaw05_TableAbove.l0 : Nat → List (S45) → Bool → List (S42) → Int → ByteArray → ByteArray → List (S35) → List (S26) → Option (Bool)
 | 0, _, _, _, _, _, _, _, _ => none
 | k + 1, x0, x5, x10, x11, x196000, x196001, x196002, x196003 => if x11 < (x10.length : Int) then (if 0 ≤ x11 then ((zaQ.f k x0 x196000 ((zaI x10 x11).f0)).bind fun bt208 => ((za3.f x0 x196000 ((zaI x10 x11).f0)).bind fun bt211 => ((za3.f x0 x196001 ((zaI x10 x11).f0)).bind fun bt214 => ((zaS.f x0 x196000 ((zaI x10 x11).f0)).bind fun bt217 => ((zaS.f x0 x196001 ((zaI x10 x11).f0)).bind fun bt226 => (if bt208.2 = true then (if bt208.1 = ((zaI x10 x11).f1) then (if bt211.1.toList = bt214.1.toList then (if (bt211.2 != bt214.2) = true then (none) else (if (bt217.2.2.2.2 != bt226.2.2.2.2) = true then (none) else (if bt217.2.2.1.toList = bt226.2.2.1.toList then (chaperonlaw05_TableAbove.j4 k x0 x5 x10 x11 ((bt217.2.1.length : Int) != (bt226.2.1.length : Int)) x196000 x196001 x196002 x196003 bt217.1 bt217.2.1 bt217.2.2.1 bt226.1 bt226.2.1 bt226.2.2.1) else (none)))) else (none)) else (none)) else (none))))))) else (none)) else (some x5)
def chaperonlaw05_TableAbove.j4 : Nat → List (S45) → Bool → List (S42) → Int → Bool → ByteArray → ByteArray → List (S35) → List (S26) → ByteArray → List (S35) → ByteArray → ByteArray → List (S35) → ByteArray → Option (Bool)
 | 0, _, _, _, _, _, _, _, _, _, _, _, _, _, _, _ => none
 | k + 1, x0, x5, x10, x11, x226, x196000, x196001, x196002, x196003, x225000, x225001, x225002, x234000, x234001, x234002 => if x226 = true then (none) else (chaperonlaw05_TableAbove.l1 k x0 x5 x10 x11 0 x196000 x196001 x196002 x196003 x225000 x225001 x225002 x234000 x234001 x234002)
def chaperonlaw05_TableAbove.l1 : Nat → List (S45) → Bool → List (S42) → Int → Int → ByteArray → ByteArray → List (S35) → List (S26) → ByteArray → List (S35) → ByteArray → ByteArray → List (S35) → ByteArray → Option (Bool)
 | 0, _, _, _, _, _, _, _, _, _, _, _, _, _, _, _ => none
 | k + 1, x0, x5, x10, x11, x24, x196000, x196001, x196002, x196003, x225000, x225001, x225002, x234000, x234001, x234002 => if x24 < (x225001.length : Int) then (if 0 ≤ x24 then (if x24 < (x234001.length : Int) then (if ((zaE x225001 x24).f1).toList = ((zaE x234001 x24).f1).toList then (chaperonlaw05_TableAbove.l1 k x0 x5 x10 x11 (wrap64 (x24 + 1)) x196000 x196001 x196002 x196003 x225000 x225001 x225002 x234000 x234001 x234002) else (none)) else (none)) else (none)) else (chaperonlaw05_TableAbove.l0 k x0 x5 x10 (wrap64 (x11 + 1)) x196000 x196001 x196002 x196003)
end
def chaperonlaw05_TableAbove.f (k : Nat) (l0 : List (S45)) (a1 : Int) : Option (Bool) := (zaX.f).bind fun t189 => ((zac.f k l0).bind fun t190 => (if t190 = true then (chaperonlaw05_TableAbove.j0 k l0 a1 t189 true) else (if (l0.length : Int) = 0 then (chaperonlaw05_TableAbove.j0 k l0 a1 t189 true) else ((zar.f k l0).bind fun bt191 => (chaperonlaw05_TableAbove.j0 k l0 a1 t189 (!(bt191.1 == 0) || (!(bt191.2 == 0))))))))
theorem chaperonlaw05_TableAbove.zbL : ∀ k, (∀ y0 y1 y2 y3, LeO (chaperonlaw05_TableAbove.j0 k y0 y1 y2 y3) (chaperonlaw05_TableAbove.j0 (k + 1) y0 y1 y2 y3)) ∧ (∀ y0 y1 y2 y3 y4 y5 y6 y7, LeO (chaperonlaw05_TableAbove.j1 k y0 y1 y2 y3 y4 y5 y6 y7) (chaperonlaw05_TableAbove.j1 (k + 1) y0 y1 y2 y3 y4 y5 y6 y7)) ∧ (∀ y0 y1 y2 y3 y4 y5 y6, LeO (chaperonlaw05_TableAbove.j2 k y0 y1 y2 y3 y4 y5 y6) (chaperonlaw05_TableAbove.j2 (k + 1) y0 y1 y2 y3 y4 y5 y6)) ∧ (∀ y0 y1 y2 y3 y4 y5 y6 y7, LeO (chaperonlaw05_TableAbove.l0 k y0 y1 y2 y3 y4 y5 y6 y7) (chaperonlaw05_TableAbove.l0 (k + 1) y0 y1 y2 y3 y4 y5 y6 y7)) ∧ (∀ y0 y1 y2 y3 y4 y5 y6 y7 y8 y9 y10 y11 y12 y13 y14, LeO (chaperonlaw05_TableAbove.j4 k y0 y1 y2 y3 y4 y5 y6 y7 y8 y9 y10 y11 y12 y13 y14) (chaperonlaw05_TableAbove.j4 (k + 1) y0 y1 y2 y3 y4 y5 y6 y7 y8 y9 y10 y11 y12 y13 y14)) ∧ (∀ y0 y1 y2 y3 y4 y5 y6 y7 y8 y9 y10 y11 y12 y13 y14, LeO (chaperonlaw05_TableAbove.l1 k y0 y1 y2 y3 y4 y5 y6 y7 y8 y9 y10 y11 y12 y13 y14) (chaperonlaw05_TableAbove.l1 (k + 1) y0 y1 y2 y3 y4 y5 y6 y7 y8 y9 y10 y11 y12 y13 y14))
 | 0 => ⟨fun _ _ _ _ r h => by simp [chaperonlaw05_TableAbove.j0] at h, fun _ _ _ _ _ _ _ _ r h => by simp [chaperonlaw05_TableAbove.j1] at h, fun _ _ _ _ _ _ _ r h => by simp [chaperonlaw05_TableAbove.j2] at h, fun _ _ _ _ _ _ _ _ r h => by simp [chaperonlaw05_TableAbove.l0] at h, fun _ _ _ _ _ _ _ _ _ _ _ _ _ _ _ r h => by simp [chaperonlaw05_TableAbove.j4] at h, fun _ _ _ _ _ _ _ _ _ _ _ _ _ _ _ r h => by simp [chaperonlaw05_TableAbove.l1] at h⟩
 | k + 1 => by
  obtain ⟨ih0, ih1, ih2, ih3, ih4, ih5⟩ := chaperonlaw05_TableAbove.zbL k
  refine ⟨?_, ?_, ?_, ?_, ?_, ?_⟩
  ·
   intro y0 y1 y2 y3
   unfold chaperonlaw05_TableAbove.j0
   repeat' first
   | (with_reducible exact ih0 _ _ _ _)
   | (with_reducible exact ih1 _ _ _ _ _ _ _ _)
   | (with_reducible exact ih2 _ _ _ _ _ _ _)
   | (with_reducible exact ih3 _ _ _ _ _ _ _ _)
   | (with_reducible exact ih4 _ _ _ _ _ _ _ _ _ _ _ _ _ _ _)
   | (with_reducible exact ih5 _ _ _ _ _ _ _ _ _ _ _ _ _ _ _)
   | (with_reducible exact zac.mono _ _)
   | (with_reducible exact zaQ.mono _ _ _ _)
   | (with_reducible exact zar.mono _ _)
   | (with_reducible exact zaq.mono _ _ _)
   | (with_reducible exact LeO.refl _)
   | (with_reducible exact LeO.none _)
   | (with_reducible refine LeO.ite ?_ ?_)
   | (with_reducible refine LeO.bind ?_ (fun _ => ?_))
   | exact ih0 _ _ _ _
   | exact ih1 _ _ _ _ _ _ _ _
   | exact ih2 _ _ _ _ _ _ _
   | exact ih3 _ _ _ _ _ _ _ _
   | exact ih4 _ _ _ _ _ _ _ _ _ _ _ _ _ _ _
   | exact ih5 _ _ _ _ _ _ _ _ _ _ _ _ _ _ _
   | exact zac.mono _ _
   | exact zaQ.mono _ _ _ _
   | exact zar.mono _ _
   | exact zaq.mono _ _ _
   | exact LeO.none _
   | refine LeO.ite ?_ ?_
   | refine LeO.bind ?_ (fun _ => ?_)
  ·
   intro y0 y1 y2 y3 y4 y5 y6 y7
   unfold chaperonlaw05_TableAbove.j1
   repeat' first
   | (with_reducible exact ih0 _ _ _ _)
   | (with_reducible exact ih1 _ _ _ _ _ _ _ _)
   | (with_reducible exact ih2 _ _ _ _ _ _ _)
   | (with_reducible exact ih3 _ _ _ _ _ _ _ _)
   | (with_reducible exact ih4 _ _ _ _ _ _ _ _ _ _ _ _ _ _ _)
   | (with_reducible exact ih5 _ _ _ _ _ _ _ _ _ _ _ _ _ _ _)
   | (with_reducible exact zac.mono _ _)
   | (with_reducible exact zaQ.mono _ _ _ _)
   | (with_reducible exact zar.mono _ _)
   | (with_reducible exact zaq.mono _ _ _)
   | (with_reducible exact LeO.refl _)
   | (with_reducible exact LeO.none _)
   | (with_reducible refine LeO.ite ?_ ?_)
   | (with_reducible refine LeO.bind ?_ (fun _ => ?_))
   | exact ih0 _ _ _ _
   | exact ih1 _ _ _ _ _ _ _ _
   | exact ih2 _ _ _ _ _ _ _
   | exact ih3 _ _ _ _ _ _ _ _
   | exact ih4 _ _ _ _ _ _ _ _ _ _ _ _ _ _ _
   | exact ih5 _ _ _ _ _ _ _ _ _ _ _ _ _ _ _
   | exact zac.mono _ _
   | exact zaQ.mono _ _ _ _
   | exact zar.mono _ _
   | exact zaq.mono _ _ _
   | exact LeO.none _
   | refine LeO.ite ?_ ?_
   | refine LeO.bind ?_ (fun _ => ?_)
  ·
   intro y0 y1 y2 y3 y4 y5 y6
   unfold chaperonlaw05_TableAbove.j2
   repeat' first
   | (with_reducible exact ih0 _ _ _ _)
   | (with_reducible exact ih1 _ _ _ _ _ _ _ _)
   | (with_reducible exact ih2 _ _ _ _ _ _ _)
   | (with_reducible exact ih3 _ _ _ _ _ _ _ _)
   | (with_reducible exact ih4 _ _ _ _ _ _ _ _ _ _ _ _ _ _ _)
   | (with_reducible exact ih5 _ _ _ _ _ _ _ _ _ _ _ _ _ _ _)
   | (with_reducible exact zac.mono _ _)
   | (with_reducible exact zaQ.mono _ _ _ _)
   | (with_reducible exact zar.mono _ _)
   | (with_reducible exact zaq.mono _ _ _)
   | (with_reducible exact LeO.refl _)
   | (with_reducible exact LeO.none _)
   | (with_reducible refine LeO.ite ?_ ?_)
   | (with_reducible refine LeO.bind ?_ (fun _ => ?_))
   | exact ih0 _ _ _ _
   | exact ih1 _ _ _ _ _ _ _ _
   | exact ih2 _ _ _ _ _ _ _
   | exact ih3 _ _ _ _ _ _ _ _
   | exact ih4 _ _ _ _ _ _ _ _ _ _ _ _ _ _ _
   | exact ih5 _ _ _ _ _ _ _ _ _ _ _ _ _ _ _
   | exact zac.mono _ _
   | exact zaQ.mono _ _ _ _
   | exact zar.mono _ _
   | exact zaq.mono _ _ _
   | exact LeO.none _
   | refine LeO.ite ?_ ?_
   | refine LeO.bind ?_ (fun _ => ?_)
  ·
   intro y0 y1 y2 y3 y4 y5 y6 y7
   unfold chaperonlaw05_TableAbove.l0
   repeat' first
   | (with_reducible exact ih0 _ _ _ _)
   | (with_reducible exact ih1 _ _ _ _ _ _ _ _)
   | (with_reducible exact ih2 _ _ _ _ _ _ _)
   | (with_reducible exact ih3 _ _ _ _ _ _ _ _)
   | (with_reducible exact ih4 _ _ _ _ _ _ _ _ _ _ _ _ _ _ _)
   | (with_reducible exact ih5 _ _ _ _ _ _ _ _ _ _ _ _ _ _ _)
   | (with_reducible exact zac.mono _ _)
   | (with_reducible exact zaQ.mono _ _ _ _)
   | (with_reducible exact zar.mono _ _)
   | (with_reducible exact zaq.mono _ _ _)
   | (with_reducible exact LeO.refl _)
   | (with_reducible exact LeO.none _)
   | (with_reducible refine LeO.ite ?_ ?_)
   | (with_reducible refine LeO.bind ?_ (fun _ => ?_))
   | exact ih0 _ _ _ _
   | exact ih1 _ _ _ _ _ _ _ _
   | exact ih2 _ _ _ _ _ _ _
   | exact ih3 _ _ _ _ _ _ _ _
   | exact ih4 _ _ _ _ _ _ _ _ _ _ _ _ _ _ _
   | exact ih5 _ _ _ _ _ _ _ _ _ _ _ _ _ _ _
   | exact zac.mono _ _
   | exact zaQ.mono _ _ _ _
   | exact zar.mono _ _
   | exact zaq.mono _ _ _
   | exact LeO.none _
   | refine LeO.ite ?_ ?_
   | refine LeO.bind ?_ (fun _ => ?_)
  ·
   intro y0 y1 y2 y3 y4 y5 y6 y7 y8 y9 y10 y11 y12 y13 y14
   unfold chaperonlaw05_TableAbove.j4
   repeat' first
   | (with_reducible exact ih0 _ _ _ _)
   | (with_reducible exact ih1 _ _ _ _ _ _ _ _)
   | (with_reducible exact ih2 _ _ _ _ _ _ _)
   | (with_reducible exact ih3 _ _ _ _ _ _ _ _)
   | (with_reducible exact ih4 _ _ _ _ _ _ _ _ _ _ _ _ _ _ _)
   | (with_reducible exact ih5 _ _ _ _ _ _ _ _ _ _ _ _ _ _ _)
   | (with_reducible exact zac.mono _ _)
   | (with_reducible exact zaQ.mono _ _ _ _)
   | (with_reducible exact zar.mono _ _)
   | (with_reducible exact zaq.mono _ _ _)
   | (with_reducible exact LeO.refl _)
   | (with_reducible exact LeO.none _)
   | (with_reducible refine LeO.ite ?_ ?_)
   | (with_reducible refine LeO.bind ?_ (fun _ => ?_))
   | exact ih0 _ _ _ _
   | exact ih1 _ _ _ _ _ _ _ _
   | exact ih2 _ _ _ _ _ _ _
   | exact ih3 _ _ _ _ _ _ _ _
   | exact ih4 _ _ _ _ _ _ _ _ _ _ _ _ _ _ _
   | exact ih5 _ _ _ _ _ _ _ _ _ _ _ _ _ _ _
   | exact zac.mono _ _
   | exact zaQ.mono _ _ _ _
   | exact zar.mono _ _
   | exact zaq.mono _ _ _
   | exact LeO.none _
   | refine LeO.ite ?_ ?_
   | refine LeO.bind ?_ (fun _ => ?_)
  ·
   intro y0 y1 y2 y3 y4 y5 y6 y7 y8 y9 y10 y11 y12 y13 y14
   unfold chaperonlaw05_TableAbove.l1
   repeat' first
   | (with_reducible exact ih0 _ _ _ _)
   | (with_reducible exact ih1 _ _ _ _ _ _ _ _)
   | (with_reducible exact ih2 _ _ _ _ _ _ _)
   | (with_reducible exact ih3 _ _ _ _ _ _ _ _)
   | (with_reducible exact ih4 _ _ _ _ _ _ _ _ _ _ _ _ _ _ _)
   | (with_reducible exact ih5 _ _ _ _ _ _ _ _ _ _ _ _ _ _ _)
   | (with_reducible exact zac.mono _ _)
   | (with_reducible exact zaQ.mono _ _ _ _)
   | (with_reducible exact zar.mono _ _)
   | (with_reducible exact zaq.mono _ _ _)
   | (with_reducible exact LeO.refl _)
   | (with_reducible exact LeO.none _)
   | (with_reducible refine LeO.ite ?_ ?_)
   | (with_reducible refine LeO.bind ?_ (fun _ => ?_))
   | exact ih0 _ _ _ _
   | exact ih1 _ _ _ _ _ _ _ _
   | exact ih2 _ _ _ _ _ _ _
   | exact ih3 _ _ _ _ _ _ _ _
   | exact ih4 _ _ _ _ _ _ _ _ _ _ _ _ _ _ _
   | exact ih5 _ _ _ _ _ _ _ _ _ _ _ _ _ _ _
   | exact zac.mono _ _
   | exact zaQ.mono _ _ _ _
   | exact zar.mono _ _
   | exact zaq.mono _ _ _
   | exact LeO.none _
   | refine LeO.ite ?_ ?_
   | refine LeO.bind ?_ (fun _ => ?_)
theorem chaperonlaw05_TableAbove.mono : ∀ a0 a1 k, LeO (chaperonlaw05_TableAbove.f k a0 a1) (chaperonlaw05_TableAbove.f (k + 1) a0 a1) := by
 intro a0 a1 k
 obtain ⟨ih0, ih1, ih2, ih3, ih4, ih5⟩ := chaperonlaw05_TableAbove.zbL k
 unfold chaperonlaw05_TableAbove.f
 repeat' first
   | (with_reducible exact ih0 _ _ _ _)
   | (with_reducible exact ih1 _ _ _ _ _ _ _ _)
   | (with_reducible exact ih2 _ _ _ _ _ _ _)
   | (with_reducible exact ih3 _ _ _ _ _ _ _ _)
   | (with_reducible exact ih4 _ _ _ _ _ _ _ _ _ _ _ _ _ _ _)
   | (with_reducible exact ih5 _ _ _ _ _ _ _ _ _ _ _ _ _ _ _)
   | (with_reducible exact zac.mono _ _)
   | (with_reducible exact zaQ.mono _ _ _ _)
   | (with_reducible exact zar.mono _ _)
   | (with_reducible exact zaq.mono _ _ _)
   | (with_reducible exact LeO.refl _)
   | (with_reducible exact LeO.none _)
   | (with_reducible refine LeO.ite ?_ ?_)
   | (with_reducible refine LeO.bind ?_ (fun _ => ?_))
   | exact ih0 _ _ _ _
   | exact ih1 _ _ _ _ _ _ _ _
   | exact ih2 _ _ _ _ _ _ _
   | exact ih3 _ _ _ _ _ _ _ _
   | exact ih4 _ _ _ _ _ _ _ _ _ _ _ _ _ _ _
   | exact ih5 _ _ _ _ _ _ _ _ _ _ _ _ _ _ _
   | exact zac.mono _ _
   | exact zaQ.mono _ _ _ _
   | exact zar.mono _ _
   | exact zaq.mono _ _ _
   | exact LeO.none _
   | refine LeO.ite ?_ ?_
   | refine LeO.bind ?_ (fun _ => ?_)
def chaperonlaw05_TableAbove.T6 : Bool × List (List Nat × List Nat) := (true, [([], []), ([0], [0]), ([1], [1]), ([2], [2]), ([3], [3]), ([4, 3], [3, 4]), ([3], [3]), ([6, 3], [3, 6]), ([5, 7, 3], [3, 5, 7]), ([3, 8], [3, 8]), ([9, 3], [9]), ([10], [10]), ([11, 10], [10, 11]), ([12, 10], [10, 12]), ([10], [10]), ([14, 10], [10, 14]), ([13, 15, 10], [10, 13, 15]), ([10, 16], [10, 16])])
def chaperonlaw05_TableAbove.B6 : List Nat := [0, 1, 3, 7, 15, 31, 15, 79, 255, 511, 1023, 2047, 4095, 8191, 2047, 18431, 65535, 131071]
theorem chaperonlaw05_TableAbove.tab6 : rtab .any (opsOf Tryd.f5 6) = chaperonlaw05_TableAbove.T6 := by kernel_rfl
theorem chaperonlaw05_TableAbove.bits6 : zca chaperonlaw05_TableAbove.T6.2 chaperonlaw05_TableAbove.B6 = true := by kernel_rfl
def chaperonlaw05_TableAbove.T17 : Bool × List (List Nat × List Nat) := (true, [([], []), ([], []), ([1], [1]), ([], []), ([], []), ([3, 4], [3, 4]), ([5], [5]), ([6], [6]), ([0, 2, 7], [0, 2, 7]), ([8], [8]), ([9], [9]), ([9], [9]), ([10, 8, 0, 1, 2, 3, 4, 5, 6, 7, 8, 9, 10], [10]), ([11, 12, 0, 1, 2, 3, 4, 5, 6, 7, 8, 9, 10, 11, 12], [11])])
def chaperonlaw05_TableAbove.B17 : List Nat := [0, 0, 2, 0, 0, 24, 56, 120, 255, 511, 1023, 1023, 2047, 8191]
theorem chaperonlaw05_TableAbove.tab17 : rtab .any (opsOf Tryd.f5 17) = chaperonlaw05_TableAbove.T17 := by kernel_rfl
theorem chaperonlaw05_TableAbove.bits17 : zca chaperonlaw05_TableAbove.T17.2 chaperonlaw05_TableAbove.B17 = true := by kernel_rfl
def chaperonlaw05_TableAbove.T18 : Bool × List (List Nat × List Nat) := (true, [([], []), ([], []), ([1], [1]), ([], []), ([], []), ([3, 4], [3, 4]), ([5], [5]), ([6], [6]), ([0, 2, 7], [0, 2, 7]), ([8], [8]), ([9], [9]), ([9], [9]), ([10, 8, 0, 1, 2, 3, 4, 5, 6, 7, 8, 9, 10], [10]), ([11, 12, 0, 1, 2, 3, 4, 5, 6, 7, 8, 9, 10, 11, 12], [11])])
def chaperonlaw05_TableAbove.B18 : List Nat := [0, 0, 2, 0, 0, 24, 56, 120, 255, 511, 1023, 1023, 2047, 8191]
theorem chaperonlaw05_TableAbove.tab18 : rtab .any (opsOf Tryd.f5 18) = chaperonlaw05_TableAbove.T18 := by kernel_rfl
theorem chaperonlaw05_TableAbove.bits18 : zca chaperonlaw05_TableAbove.T18.2 chaperonlaw05_TableAbove.B18 = true := by kernel_rfl
def chaperonlaw05_TableAbove.T19 : Bool × List (List Nat × List Nat) := (true, [([], []), ([], []), ([1], [1]), ([], []), ([], []), ([3, 4], [3, 4]), ([5], [5]), ([6], [6]), ([0, 2, 7], [0, 2, 7]), ([8], [8]), ([9], [9]), ([9], [9]), ([10, 8, 0, 1, 2, 3, 4, 5, 6, 7, 8, 9, 10], [10]), ([11, 12, 0, 1, 2, 3, 4, 5, 6, 7, 8, 9, 10, 11, 12], [11])])
def chaperonlaw05_TableAbove.B19 : List Nat := [0, 0, 2, 0, 0, 24, 56, 120, 255, 511, 1023, 1023, 2047, 8191]
theorem chaperonlaw05_TableAbove.tab19 : rtab .any (opsOf Tryd.f5 19) = chaperonlaw05_TableAbove.T19 := by kernel_rfl
theorem chaperonlaw05_TableAbove.bits19 : zca chaperonlaw05_TableAbove.T19.2 chaperonlaw05_TableAbove.B19 = true := by kernel_rfl
def chaperonlaw05_TableAbove.T20 : Bool × List (List Nat × List Nat) := (true, [([], []), ([], []), ([1], [1]), ([], []), ([], []), ([3, 4], [3, 4]), ([5], [5]), ([6], [6]), ([0, 2, 7], [0, 2, 7]), ([8], [8]), ([9], [9]), ([9], [9]), ([9], [9]), ([], []), ([13, 10, 8, 0, 1, 2, 3, 4, 5, 6, 7, 8, 9, 10, 13], [10, 13]), ([11, 14, 0, 1, 2, 3, 4, 5, 6, 7, 8, 9, 10, 11, 13, 14], [11]), ([12, 15, 0, 1, 2, 3, 4, 5, 6, 7, 8, 9, 10, 11, 12, 13, 14, 15], [12])])
def chaperonlaw05_TableAbove.B20 : List Nat := [0, 0, 2, 0, 0, 24, 56, 120, 255, 511, 1023, 1023, 1023, 0, 10239, 28671, 65535]
theorem chaperonlaw05_TableAbove.tab20 : rtab .any (opsOf Tryd.f5 20) = chaperonlaw05_TableAbove.T20 := by kernel_rfl
theorem chaperonlaw05_TableAbove.bits20 : zca chaperonlaw05_TableAbove.T20.2 chaperonlaw05_TableAbove.B20 = true := by kernel_rfl
def chaperonlaw05_TableAbove.T21 : Bool × List (List Nat × List Nat) := (true, [([], []), ([], []), ([1], [1]), ([], []), ([], []), ([3, 4], [3, 4]), ([5], [5]), ([6], [6]), ([0, 2, 7], [0, 2, 7]), ([8], [8]), ([9], [9]), ([9], [9]), ([9], [9]), ([], []), ([13, 10, 8, 0, 1, 2, 3, 4, 5, 6, 7, 8, 9, 10, 13], [10, 13]), ([11, 14, 0, 1, 2, 3, 4, 5, 6, 7, 8, 9, 10, 11, 13, 14], [11]), ([12, 15, 0, 1, 2, 3, 4, 5, 6, 7, 8, 9, 10, 11, 12, 13, 14, 15], [12])])
def chaperonlaw05_TableAbove.B21 : List Nat := [0, 0, 2, 0, 0, 24, 56, 120, 255, 511, 1023, 1023, 1023, 0, 10239, 28671, 65535]
theorem chaperonlaw05_TableAbove.tab21 : rtab .any (opsOf Tryd.f5 21) = chaperonlaw05_TableAbove.T21 := by kernel_rfl
theorem chaperonlaw05_TableAbove.bits21 : zca chaperonlaw05_TableAbove.T21.2 chaperonlaw05_TableAbove.B21 = true := by kernel_rfl
def chaperonlaw05_TableAbove.T27 : Bool × List (List Nat × List Nat) := (true, [([], []), ([0], [0]), ([], []), ([1, 2], [1, 2]), ([3], [3]), ([4], [4]), ([], []), ([6], [6]), ([], []), ([7, 8], [7, 8]), ([9], [9]), ([10], [10]), ([5, 11], [5, 11])])
def chaperonlaw05_TableAbove.B27 : List Nat := [0, 1, 0, 7, 15, 31, 0, 64, 0, 448, 960, 1984, 4095]
theorem chaperonlaw05_TableAbove.tab27 : rtab .any (opsOf Tryd.f5 27) = chaperonlaw05_TableAbove.T27 := by kernel_rfl
theorem chaperonlaw05_TableAbove.bits27 : zca chaperonlaw05_TableAbove.T27.2 chaperonlaw05_TableAbove.B27 = true := by kernel_rfl
theorem chaperonlaw05_TableAbove.calls (k : Nat) (A0 : Option Addr) (c0 : Nat) (l0 : List (S45)) (a1 : Int) (r : Bool) (w : World) (hr0 : Kd.C k45 w A0 l0.length l0) (hc0 : l0.length ≤ c0) (h : chaperonlaw05_TableAbove.f k l0 a1 = some r) (hG : Go.Proofs.YtgcfmllgomikoaaDoorTab.GW w := by exact Go.Proofs.YtgcfmllgomikoaaDoorTab.GW.below hG (by repeat (first | (with_reducible first | exact HB.out | apply zaf | apply zad | apply zae) | exact HB.out | exact Below.refl _ _))) :
  Calls Tryd.prog 5 #[.slice A0 l0.length c0, .int .i64 a1] w fun e w' => e = .returned (.bool r) ∧ Below w.heap.size w w' := by
 have hu51 := Tryd.underlying51
 have hu45 := Tryd.underlying45
 have hu26 := Tryd.underlying26
 have HR0 := zaa.mk hr0
 have HC0 := zaa.mk hc0
 clear hr0 hc0
 have HB := zaa.mk (Below.refl w.heap.size w)
 have H : ((zaX.f).bind fun t189 => ((zac.f k l0).bind fun t190 => (if t190 = true then (chaperonlaw05_TableAbove.j0 k l0 a1 t189 true) else (if (l0.length : Int) = 0 then (chaperonlaw05_TableAbove.j0 k l0 a1 t189 true) else ((zar.f k l0).bind fun bt191 => (chaperonlaw05_TableAbove.j0 k l0 a1 t189 (!(bt191.1 == 0) || (!(bt191.2 == 0))))))))) = some r := h
 clear h
 replace H := Option.bind_eq_some_iff.mp H
 obtain ⟨t189, A30, H⟩ := H
 replace H : ((zac.f k l0).bind fun t190 => (if t190 = true then (chaperonlaw05_TableAbove.j0 k l0 a1 t189 true) else (if (l0.length : Int) = 0 then (chaperonlaw05_TableAbove.j0 k l0 a1 t189 true) else ((zar.f k l0).bind fun bt191 => (chaperonlaw05_TableAbove.j0 k l0 a1 t189 (!(bt191.1 == 0) || (!(bt191.2 == 0)))))))) = some r := H
 have A3 := zaa.mk A30
 clear A30
 have HC4 := zaa.mk H
 clear H
 go_enter Tryd.func5, Tryd.ntmps5
 go_upto_region 2 with (first | ((with_reducible refine zbc (f := 3) rfl ?_); refine zcL (some 25) rfl rfl Tryd.func3 k9 rfl #[] rfl m9 ?_; (with_reducible refine (zaX.calls  t189 _ A3.out).mono ?_); rintro e w5 ⟨rfl, hb⟩; refine ⟨_, rfl, ?_⟩; have n0_ := zaa.mk (zaL (by repeat (first | (with_reducible first | exact HB.out | apply zaf | apply zad | apply zae) | exact HB.out)) hb); clear HB; have HB := n0_; clear n0_; (try clear hb); (try clear hb2); (try clear hk); (try clear hi)))
 (try simp only [Act.put, List.setIfInBounds_toArray, List.set_cons_zero, List.set_cons_succ])
 go_cut [38] (fun v38 wc => ∃ (kq : Nat) (x38_3 : Bool), v38 = .bool x38_3 ∧ zaa (chaperonlaw05_TableAbove.j0 kq l0 a1 t189 x38_3 = some r) ∧ zaa (kq ≤ k) ∧ zaa (Below w.heap.size w wc))
 case first =>
  have H := HC4.out
  clear HC4
  replace H := Option.bind_eq_some_iff.mp H
  obtain ⟨t190, A60, H⟩ := H
  replace H : (if t190 = true then (chaperonlaw05_TableAbove.j0 k l0 a1 t189 true) else (if (l0.length : Int) = 0 then (chaperonlaw05_TableAbove.j0 k l0 a1 t189 true) else ((zar.f k l0).bind fun bt191 => (chaperonlaw05_TableAbove.j0 k l0 a1 t189 (!(bt191.1 == 0) || (!(bt191.2 == 0))))))) = some r := H
  have A6 := zaa.mk A60
  clear A60
  by_cases c7 : t190 = true
  ·
   subst c7
   have H1 : (chaperonlaw05_TableAbove.j0 k l0 a1 t189 true) = some r := by rw [if_pos rfl] at H; exact H
   clear H
   have H := H1
   clear H1
   as_aux_lemma =>
    have H' := zaa.mk H
    clear H
    go_wp2_with (first | ((with_reducible refine zbc (f := 17) rfl ?_); refine zcL (some 27) rfl rfl Tryd.func17 k9 rfl #[.slice A0 l0.length c0] rfl m9 ?_; (with_reducible refine (zac.calls k _ _ l0 true _ ?side1 ?side2 A6.out).mono ?_); (case side1 => repeat (first | exact (Kd.zax HR0.out HB.out) | (with_reducible refine Kd.zbs ?_ _) | (with_reducible refine Kd.zbz ?_ _) | (with_reducible refine Kd.zbZ ?_))); (case side2 => exact HC0.out); rintro e w8 ⟨rfl, hb⟩; refine ⟨_, rfl, ?_⟩; have n0_ := zaa.mk (zaL (by repeat (first | (with_reducible first | exact HB.out | apply zaf | apply zad | apply zae) | exact HB.out)) hb); clear HB; have HB := n0_; clear n0_; (try clear hb); (try clear hb2); (try clear hk); (try clear hi)))
    go_meet
    case rel => exact ⟨_, (true), (by first | rfl | (simp; done) | (simp [*]; done)), H', ⟨by first | omega | exact Nat.le_refl _⟩, ⟨by repeat (first | (with_reducible first | exact HB.out | apply zaf | apply zad | apply zae) | exact HB.out)⟩⟩
  ·
   replace c7 := Bool.eq_false_iff.mpr c7
   subst c7
   have H1 : (if (l0.length : Int) = 0 then (chaperonlaw05_TableAbove.j0 k l0 a1 t189 true) else ((zar.f k l0).bind fun bt191 => (chaperonlaw05_TableAbove.j0 k l0 a1 t189 (!(bt191.1 == 0) || (!(bt191.2 == 0)))))) = some r := by rw [if_neg (show ¬ (false = true) by decide)] at H; exact H
   clear H
   have H := H1
   clear H1
   by_cases c9 : (l0.length : Int) = 0
   ·
    rw [if_pos c9] at H
    have c9b0 : ((l0.length : Int) == 0) = true := beq_iff_eq.mpr c9
    have c9b1 : ((l0.length : Int) != 0) = false := bne_eq_false_iff_eq.mpr c9
    clear c9
    (first | rw [c9b0] | (simp only [i64_w, i32_w]; rw [c9b0]) | skip)
    as_aux_lemma =>
     have H' := zaa.mk H
     clear H
     go_wp2_with (first | ((with_reducible refine zbc (f := 17) rfl ?_); refine zcL (some 27) rfl rfl Tryd.func17 k9 rfl #[.slice A0 l0.length c0] rfl m9 ?_; (with_reducible refine (zac.calls k _ _ l0 false _ ?side1 ?side2 A6.out).mono ?_); (case side1 => repeat (first | exact (Kd.zax HR0.out HB.out) | (with_reducible refine Kd.zbs ?_ _) | (with_reducible refine Kd.zbz ?_ _) | (with_reducible refine Kd.zbZ ?_))); (case side2 => exact HC0.out); rintro e w10 ⟨rfl, hb⟩; refine ⟨_, rfl, ?_⟩; have n0_ := zaa.mk (zaL (by repeat (first | (with_reducible first | exact HB.out | apply zaf | apply zad | apply zae) | exact HB.out)) hb); clear HB; have HB := n0_; clear n0_; (try clear hb); (try clear hb2); (try clear hk); (try clear hi)))
     go_meet
     case rel => exact ⟨_, (true), (by first | rfl | (simp; done) | (simp [*]; done)), H', ⟨by first | omega | exact Nat.le_refl _⟩, ⟨by repeat (first | (with_reducible first | exact HB.out | apply zaf | apply zad | apply zae) | exact HB.out)⟩⟩
   ·
    rw [if_neg c9] at H
    have c9b0 : ((l0.length : Int) == 0) = false := beq_eq_false_iff_ne.mpr c9
    have c9b1 : ((l0.length : Int) != 0) = true := bne_iff_ne.mpr c9
    have c9b2 : ¬ (l0 = []) := fun h_ => c9 (by rw [h_]; rfl)
    (first | rw [c9b0] | (simp only [i64_w, i32_w]; rw [c9b0]) | skip)
    replace H := Option.bind_eq_some_iff.mp H
    obtain ⟨⟨t191, t192⟩, A110, H⟩ := H
    replace H : (chaperonlaw05_TableAbove.j0 k l0 a1 t189 (!(t191 == 0) || (!(t192 == 0)))) = some r := H
    have A11 := zaa.mk A110
    clear A110
    as_aux_lemma =>
     have H' := zaa.mk H
     clear H
     go_wp2_with (first | ((with_reducible refine zbc (f := 17) rfl ?_); refine zcL (some 27) rfl rfl Tryd.func17 k9 rfl #[.slice A0 l0.length c0] rfl m9 ?_; (with_reducible refine (zac.calls k _ _ l0 false _ ?side1 ?side2 A6.out).mono ?_); (case side1 => repeat (first | exact (Kd.zax HR0.out HB.out) | (with_reducible refine Kd.zbs ?_ _) | (with_reducible refine Kd.zbz ?_ _) | (with_reducible refine Kd.zbZ ?_))); (case side2 => exact HC0.out); rintro e w12 ⟨rfl, hb⟩; refine ⟨_, rfl, ?_⟩; have n0_ := zaa.mk (zaL (by repeat (first | (with_reducible first | exact HB.out | apply zaf | apply zad | apply zae) | exact HB.out)) hb); clear HB; have HB := n0_; clear n0_; (try clear hb); (try clear hb2); (try clear hk); (try clear hi)) | (go_at_call 18; (with_reducible refine (zar.calls k _ _ l0 t191 t192 _ ?side1 ?side2 A11.out).mono ?_); (case side1 => repeat (first | exact (Kd.zax HR0.out HB.out) | (with_reducible refine Kd.zbs ?_ _) | (with_reducible refine Kd.zbz ?_ _) | (with_reducible refine Kd.zbZ ?_))); (case side2 => exact HC0.out); rintro e w13 ⟨rfl, hb⟩; have n0_ := zaa.mk (zaL (by repeat (first | (with_reducible first | exact HB.out | apply zaf | apply zad | apply zae) | exact HB.out)) hb); clear HB; have HB := n0_; clear n0_; (try clear hb); (try clear hb2); (try clear hk); (try clear hi)))
     go_meet
     case rel => exact ⟨_, ((!(t191 == 0) || (!(t192 == 0)))), (by first | rfl | (simp; done) | (simp [*]; done)), H', ⟨by first | omega | exact Nat.le_refl _⟩, ⟨by repeat (first | (with_reducible first | exact HB.out | apply zaf | apply zad | apply zae) | exact HB.out)⟩⟩
 case rest =>
  clear HC4
  try clear c1
  try clear p2
  try clear c3
  try clear c5
  try clear c7
  try clear c9
  try clear c9b0
  try clear c9b1
  try clear c9b2
  obtain ⟨kq, x38_3, rfl, HA, HJ3, HB⟩ := hcut
  cases kq with
  | zero => exact absurd HA.out (by simp [chaperonlaw05_TableAbove.j0])
  | succ kj3 =>
   have H := HA.out
   clear HA
   simp only [chaperonlaw05_TableAbove.j0] at H
   by_cases c14 : x38_3 = true
   ·
    subst c14
    have H1 : (some t189) = some r := by rw [if_pos rfl] at H; exact H
    clear H
    have H := H1
    clear H1
    as_aux_lemma =>
     obtain rfl := Option.some.inj H
     go_wp2
     go_ret
     exact ⟨by first | rfl | (simp [zaV, zaW] <;> rfl) | (simp [*, zaV, zaW] <;> rfl), by repeat (first | (with_reducible first | exact HB.out | apply zaf | apply zad | apply zae) | exact HB.out)⟩
   ·
    replace c14 := Bool.eq_false_iff.mpr c14
    subst c14
    have H1 : ((za5.f a1 (l0.length : Int)).bind fun t193 => (if 0 ≤ t193 then (if t193 < (l0.length : Int) then ((za4.f l0 ((zab l0 t193).f0)).bind fun t196 => (if (t196.length : Int) = 0 then (none) else (if (t196.length : Int) > (l0.length : Int) then (none) else (if 0 < (t196.length : Int) then (chaperonlaw05_TableAbove.j1 kj3 l0 t189 t196 ((rdOf ByteArray.empty t196 0).toList != ((zab l0 t193).f0).toList) ((zab l0 t193).f0) ((zab l0 t193).f1) ((zab l0 t193).f2) ((zab l0 t193).f3)) else (none))))) else (none)) else (none))) = some r := by rw [if_neg (show ¬ (false = true) by decide)] at H; exact H
    clear H
    have H := H1
    clear H1
    replace H := Option.bind_eq_some_iff.mp H
    obtain ⟨t193, A150, H⟩ := H
    replace H : (if 0 ≤ t193 then (if t193 < (l0.length : Int) then ((za4.f l0 ((zab l0 t193).f0)).bind fun t196 => (if (t196.length : Int) = 0 then (none) else (if (t196.length : Int) > (l0.length : Int) then (none) else (if 0 < (t196.length : Int) then (chaperonlaw05_TableAbove.j1 kj3 l0 t189 t196 ((rdOf ByteArray.empty t196 0).toList != ((zab l0 t193).f0).toList) ((zab l0 t193).f0) ((zab l0 t193).f1) ((zab l0 t193).f2) ((zab l0 t193).f3)) else (none))))) else (none)) else (none)) = some r := H
    have A15 := zaa.mk A150
    clear A150
    by_cases c16 : 0 ≤ t193
    ·
     rw [if_pos c16] at H
     have c16b0 : decide (0 ≤ t193) = true := decide_eq_true c16
     clear c16
     by_cases c17 : t193 < (l0.length : Int)
     ·
      rw [if_pos c17] at H
      have c17b0 : decide (t193 < (l0.length : Int)) = true := decide_eq_true c17
      clear c17
      replace H := Option.bind_eq_some_iff.mp H
      obtain ⟨t196, A180, H⟩ := H
      replace H : (if (t196.length : Int) = 0 then (none) else (if (t196.length : Int) > (l0.length : Int) then (none) else (if 0 < (t196.length : Int) then (chaperonlaw05_TableAbove.j1 kj3 l0 t189 t196 ((rdOf ByteArray.empty t196 0).toList != ((zab l0 t193).f0).toList) ((zab l0 t193).f0) ((zab l0 t193).f1) ((zab l0 t193).f2) ((zab l0 t193).f3)) else (none)))) = some r := H
      have A18 := zaa.mk A180
      clear A180
      have HC19 := zaa.mk H
      clear H
      go_upto_region 6 with (first | ((with_reducible refine zbc (f := 19) rfl ?_); refine zcL (some 44) rfl rfl Tryd.func19 k9 rfl #[.int .i64 a1, .int .i64 (l0.length : Int)] rfl m9 ?_; (with_reducible refine (za5.calls a1 (l0.length : Int) t193 _ A15.out).mono ?_); rintro e w' ⟨rfl, ⟨nd, rfl⟩⟩; refine ⟨_, rfl, ?_⟩; (try (rw [zf5 wc]; generalize hq_ : World.drewN wc _ = wc; have n0_ : zaa (Below w.heap.size w wc) := ⟨by rw [← hq_]; exact (by repeat (first | (with_reducible first | exact HB.out | apply zaf | apply zad | apply zae) | exact HB.out))⟩; clear HB hq_; have HB := n0_; clear n0_)); have p194 : 0 ≤ (t193 : Int) := of_decide_eq_true (by first | (with_reducible assumption) | assumption); have q194 : t193 < (l0.length : Int) := of_decide_eq_true (by first | (with_reducible assumption) | assumption); obtain ⟨ad194, A194_2, c194_2, A194_3, c194_3, e194, hx194_0, hx194_1, hx194_2, hx194_3, hl194_2, hi194_2, hl194_3, hi194_3⟩ := zbY HR0.out t193 p194 q194; cases e194; replace hx194_0 := (HB.out.cell (World.block_lt_of_cell? w _ hx194_0)).trans hx194_0; replace hx194_1 := (HB.out.cell (World.block_lt_of_cell? w _ hx194_1)).trans hx194_1; replace hx194_2 := (HB.out.cell (World.block_lt_of_cell? w _ hx194_2)).trans hx194_2; replace hx194_3 := (HB.out.cell (World.block_lt_of_cell? w _ hx194_3)).trans hx194_3; have HR194_2 := zaa.mk hi194_2; have HC194_2 := zaa.mk hl194_2; clear hi194_2 hl194_2; have HR194_3 := zaa.mk hi194_3; have HC194_3 := zaa.mk hl194_3; clear hi194_3 hl194_3; replace p194 := eq_true p194; replace q194 := eq_true q194) | ((with_reducible refine zbF (N := 6) rfl ?_); (try (refine zbV (by rfl) ?_; dsimp only)); refine zbP ?hg (N := 6) ?hd (cs := #[.string (⟨#[]⟩ : ByteArray), .string (⟨#[]⟩ : ByteArray), .slice none 0 0, .slice none 0 0]) (t := 45) ?hr ?_; (case hd => rfl); (case hg => rfl); (case hr => first | (go_simp; done) | (go_simp; rfl)); intro gb195 hg w20 hbox hb; have n0_ := zaa.mk (zaL (by repeat (first | (with_reducible first | exact HB.out | apply zaf | apply zad | apply zae) | exact HB.out)) hb); have n1_ := zaa.mk (hbox); have n2_ := zaa.mk ((by rw [hg]; exact (zaD (by repeat (first | (with_reducible first | exact HB.out | apply zaf | apply zad | apply zae) | exact HB.out))) : w.heap.size ≤ gb195)); have n3_ := zaa.mk ((by rw [hg]; exact (zaD (by repeat (first | (with_reducible first | exact HB.out | apply zaf | apply zad | apply zae) | exact HB.out))) : w.heap.size ≤ gb195)); clear HB; have HB := n0_; have BK195 := n1_; have GW195 := n2_; have GE195 := n3_; clear n0_ n1_ n2_ n3_; clear hb hbox hg; have hcz21_0 : w20.cell? ⟨gb195, 0, none⟩ = some (.string (⟨#[]⟩ : ByteArray)) := (zai BK195.out 0).trans rfl; have hcz21_1 : w20.cell? ⟨gb195, 1, none⟩ = some (.string (⟨#[]⟩ : ByteArray)) := (zai BK195.out 1).trans rfl; have hcz21_2 : w20.cell? ⟨gb195, 2, none⟩ = some (.slice none 0 0) := (zai BK195.out 2).trans rfl; have hcz21_3 : w20.cell? ⟨gb195, 3, none⟩ = some (.slice none 0 0) := (zai BK195.out 3).trans rfl; have hfz21_0 := zal BK195.out 0; have hfz21_1 := zal BK195.out 1; have hfz21_2 := zal BK195.out 2; have hfz21_3 := zal BK195.out 3) | ((with_reducible refine zbc (f := 21) rfl ?_); refine zcL (some 50) rfl rfl Tryd.func21 k9 rfl #[.slice (some ad194) l0.length c0, .string ((zab l0 t193).f0)] rfl m9 ?_; (with_reducible refine (za4.calls _ _ l0 ((zab l0 t193).f0) t196 _ ?side1 ?side2 A18.out).mono ?_); (case side1 => exact Kd.zax HR0.out (by repeat (first | (with_reducible first | exact HB.out | apply zaf | apply zad | apply zae | refine zah ?_ GE195.out) | exact HB.out))); (case side2 => exact HC0.out); rintro e w22 ⟨v197, rfl, ho0, hb⟩; refine ⟨_, rfl, ?_⟩; have n0_ := zaa.mk (Kd.zbJ ho0 (zaD (by repeat (first | (with_reducible first | exact HB.out | apply zaf | apply zad | apply zae | refine zah ?_ GE195.out) | exact HB.out)))); have n1_ := zaa.mk (zaU (g := gb195) (o := .cells #[.string ((zab l0 t193).f0), .string ((zab l0 t193).f1), .slice A194_2 ((zab l0 t193).f2).length c194_2, .slice A194_3 ((zab l0 t193).f3).length c194_3] 45 (0, 0)) (by (with_reducible repeat (first | refine zaj ?_ _ | refine zan ?_ | refine zak ?_ _)); refine zay (cs := #[.string ((zab l0 t193).f0), .string ((zab l0 t193).f1), .slice A194_2 ((zab l0 t193).f2).length c194_2, .slice none 0 0]) ?_ 3 _ rfl; (with_reducible repeat (first | refine zaj ?_ _ | refine zan ?_ | refine zak ?_ _)); refine zay (cs := #[.string ((zab l0 t193).f0), .string ((zab l0 t193).f1), .slice none 0 0, .slice none 0 0]) ?_ 2 _ rfl; (with_reducible repeat (first | refine zaj ?_ _ | refine zan ?_ | refine zak ?_ _)); refine zay (cs := #[.string ((zab l0 t193).f0), .string (⟨#[]⟩ : ByteArray), .slice none 0 0, .slice none 0 0]) ?_ 1 _ rfl; (with_reducible repeat (first | refine zaj ?_ _ | refine zan ?_ | refine zak ?_ _)); refine zay (cs := #[.string (⟨#[]⟩ : ByteArray), .string (⟨#[]⟩ : ByteArray), .slice none 0 0, .slice none 0 0]) ?_ 0 _ rfl; (with_reducible repeat (first | refine zaj ?_ _ | refine zan ?_ | refine zak ?_ _)); exact BK195.out) hb); have n2_ := zaa.mk (zaL (by repeat (first | (with_reducible first | exact HB.out | apply zaf | apply zad | apply zae | refine zah ?_ GE195.out) | exact HB.out)) hb); clear BK195; clear HB; have HO198 := n0_; have BK195 := n1_; have HB := n2_; clear n0_ n1_ n2_; (try clear hb); (try clear hb2); (try clear hk); (try clear hi); (try clear ho0)))
      (try simp only [Act.put, List.setIfInBounds_toArray, List.set_cons_zero, List.set_cons_succ])
      go_cut [68] (fun v68 wc => ∃ (kq : Nat) (x68_18 : Bool), v68 = .bool x68_18 ∧ zaa (chaperonlaw05_TableAbove.j1 kq l0 t189 t196 x68_18 ((zab l0 t193).f0) ((zab l0 t193).f1) ((zab l0 t193).f2) ((zab l0 t193).f3) = some r) ∧ zaa (kq ≤ kj3) ∧ zaa (Kd.R Kd.string 9 wc w.heap.size (fun _ => True) v197 t196) ∧ zaa (wc.heap[gb195]? = some (.cells #[.string ((zab l0 t193).f0), .string ((zab l0 t193).f1), (.slice A194_2 ((zab l0 t193).f2).length c194_2), (.slice A194_3 ((zab l0 t193).f3).length c194_3)] 45 (0, 0))) ∧ zaa (Below w.heap.size w wc))
      case first =>
       have H := HC19.out
       clear HC19
       by_cases c23 : (t196.length : Int) = 0
       ·
        rw [if_pos c23] at H
        have c23b0 : ((t196.length : Int) == 0) = true := beq_iff_eq.mpr c23
        have c23b1 : ((t196.length : Int) != 0) = false := bne_eq_false_iff_eq.mpr c23
        clear c23
        (first | rw [c23b0] | (simp only [i64_w, i32_w]; rw [c23b0]) | skip)
        exact absurd H s9
       ·
        rw [if_neg c23] at H
        have c23b0 : ((t196.length : Int) == 0) = false := beq_eq_false_iff_ne.mpr c23
        have c23b1 : ((t196.length : Int) != 0) = true := bne_iff_ne.mpr c23
        have c23b2 : ¬ (t196 = []) := fun h_ => c23 (by rw [h_]; rfl)
        (first | rw [c23b0] | (simp only [i64_w, i32_w]; rw [c23b0]) | skip)
        by_cases c24 : (t196.length : Int) > (l0.length : Int)
        ·
         rw [if_pos c24] at H
         have c24b0 : decide ((l0.length : Int) < (t196.length : Int)) = true := decide_eq_true c24
         have c24b1 : decide (l0.length < t196.length) = true := decide_eq_true (Int.ofNat_lt.mp c24)
         clear c24
         exact absurd H s9
        ·
         rw [if_neg c24] at H
         have c24b0 : decide ((l0.length : Int) < (t196.length : Int)) = false := decide_eq_false c24
         have c24b1 : decide (l0.length < t196.length) = false := decide_eq_false (fun h => c24 (Int.ofNat_lt.mpr h))
         clear c24
         by_cases c25 : 0 < (t196.length : Int)
         ·
          rw [if_pos c25] at H
          have c25b0 : decide (0 < (t196.length : Int)) = true := decide_eq_true c25
          have c25b1 : decide (0 < t196.length) = true := decide_eq_true o9
          clear c25
          as_aux_lemma =>
           have H' := zaa.mk H
           clear H
           try go_wp2
           have n0_ := zaa.mk (Kd.zaJ HO198.out)
           have n1_ := zaa.mk (zan BK195.out)
           have n2_ := zaa.mk (zae HB.out)
           clear HO198
           clear BK195
           clear HB
           have HO198 := n0_
           have BK195 := n1_
           have HB := n2_
           clear n0_ n1_ n2_
           obtain ⟨Ao27, co27, eo27⟩ := Kd.za6 HO198.out
           (first | subst eo27 | (injection eo27 with f1_ f2_ f3_; have f4_ := f1_.symm; have f5_ := f3_.symm; clear f1_ f2_ f3_; subst f4_; subst f5_))
           have p199 : 0 ≤ (0 : Int) := o9
           have q199 : 0 < (t196.length : Int) := of_decide_eq_true (by first | (with_reducible assumption) | assumption)
           obtain ⟨ad199, e199, hx199_0⟩ := Kd.zcx (Kd.zbb HO198.out).2.2 0 p199 q199
           cases e199
           have qi199 : (0 < t196.length) = True := eq_true o9
           (try rw [show ((0 : Int)).toNat = 0 from rfl] at hx199_0)
           (try rw [Addr.add_zero'] at hx199_0)
           replace p199 := eq_true p199
           replace q199 := eq_true q199
           refine zdZ (n := 18) (S := fun w' => w'.cell? ⟨gb195, 0, none⟩ = some (.string ((zab l0 t193).f0)) ∧ w'.cell? ⟨gb195, 1, none⟩ = some (.string ((zab l0 t193).f1)) ∧ w'.cell? ⟨gb195, 2, none⟩ = some (.slice A194_2 ((zab l0 t193).f2).length c194_2) ∧ w'.cell? ⟨gb195, 3, none⟩ = some (.slice A194_3 ((zab l0 t193).f3).length c194_3) ∧ w'.cell? ad199 = some (.string (rdOf ByteArray.empty t196 0))) (ds := []) #[false, false, false, false, false, false, false, false, false, false, false, false, false, false, false, false, false, false] k9 rfl rfl ⟨(zai BK195.out 0).trans rfl, (zai BK195.out 1).trans rfl, (zai BK195.out 2).trans rfl, (zai BK195.out 3).trans rfl, hx199_0⟩ (fun hHeld => ?_); refine zce chaperonlaw05_TableAbove.tab6 chaperonlaw05_TableAbove.bits6 (fun HT_ HW_ => ?_)
           generalize w22.drew = w26 at HO198 BK195 HB hx199_0 hHeld ⊢
           refine pure_ (i := 0) (N := some 51) (v := ?_) (a' := ?_) #[true, false, false, false, false, false, false, false, false, false, false, false, false, false, false, false, false, false] rfl rfl (zaB HT_.out k9) (fun _ _ _ h => h) (Or.inl ⟨by rfl, ?_⟩) ?_ ?_
           rotate_left
           ·
            intro w'
            go_simp
            with_reducible rfl
           rotate_left
           ·
            simp only [Act.put, List.setIfInBounds_toArray, List.set_cons_zero, List.set_cons_succ, i64_w, i32_w]
            rfl
           refine pure_ (i := 1) (N := some 52) (v := ?_) (a' := ?_) #[true, true, false, false, false, false, false, false, false, false, false, false, false, false, false, false, false, false] rfl rfl (zaB HT_.out k9) (fun _ _ _ h => h) (Or.inl ⟨by rfl, ?_⟩) ?_ ?_
           rotate_left
           ·
            intro w'
            go_simp
            with_reducible rfl
           rotate_left
           ·
            simp only [Act.put, List.setIfInBounds_toArray, List.set_cons_zero, List.set_cons_succ, i64_w, i32_w]
            rfl
           refine pure_ (i := 2) (N := some 53) (v := ?_) (a' := ?_) #[true, true, true, false, false, false, false, false, false, false, false, false, false, false, false, false, false, false] rfl rfl (zaB HT_.out k9) (fun _ _ _ h => h) (Or.inl ⟨by rfl, ?_⟩) ?_ ?_
           rotate_left
           ·
            intro w'
            go_simp
            with_reducible rfl
           rotate_left
           ·
            simp only [Act.put, List.setIfInBounds_toArray, List.set_cons_zero, List.set_cons_succ, i64_w, i32_w]
            rfl
           refine pure_ (i := 3) (N := some 54) (v := ?_) (a' := ?_) #[true, true, true, true, false, false, false, false, false, false, false, false, false, false, false, false, false, false] rfl rfl (zaB HT_.out k9) (fun _ _ _ h => h) (Or.inl ⟨by rfl, ?_⟩) ?_ ?_
           rotate_left
           ·
            intro w'
            go_simp
            with_reducible rfl
           rotate_left
           ·
            simp only [Act.put, List.setIfInBounds_toArray, List.set_cons_zero, List.set_cons_succ, i64_w, i32_w]
            rfl
           refine pure_ (i := 4) (N := some 55) (v := ?_) (a' := ?_) #[true, true, true, true, true, false, false, false, false, false, false, false, false, false, false, false, false, false] rfl rfl (zaB HT_.out k9) (fun _ _ _ h => h) (Or.inl ⟨by rfl, ?_⟩) ?_ ?_
           rotate_left
           ·
            intro w'
            go_simp
            with_reducible rfl
           rotate_left
           ·
            simp only [Act.put, List.setIfInBounds_toArray, List.set_cons_zero, List.set_cons_succ, i64_w, i32_w]
            rfl
           refine pure_ (i := 5) (N := some 56) (v := ?_) (a' := ?_) #[true, true, true, true, true, true, false, false, false, false, false, false, false, false, false, false, false, false] rfl rfl (zaB HT_.out k9) (fun _ _ _ h => h) (Or.inl ⟨by rfl, ?_⟩) ?_ ?_
           rotate_left
           ·
            intro w'
            go_simp
            with_reducible rfl
           rotate_left
           ·
            simp only [Act.put, List.setIfInBounds_toArray, List.set_cons_zero, List.set_cons_succ, i64_w, i32_w]
            rfl
           refine pure_ (i := 6) (N := some 57) (v := ?_) (a' := ?_) #[true, true, true, true, true, true, true, false, false, false, false, false, false, false, false, false, false, false] rfl rfl (zaB HT_.out k9) (fun _ _ _ h => h) (Or.inl ⟨by rfl, ?_⟩) ?_ ?_
           rotate_left
           ·
            intro w'
            go_simp
            with_reducible rfl
           rotate_left
           ·
            simp only [Act.put, List.setIfInBounds_toArray, List.set_cons_zero, List.set_cons_succ, i64_w, i32_w]
            rfl
           refine pure_ (i := 7) (N := some 58) (v := ?_) (a' := ?_) #[true, true, true, true, true, true, true, true, false, false, false, false, false, false, false, false, false, false] rfl rfl (zaB HT_.out k9) (fun _ _ _ h => h) (Or.inl ⟨by rfl, ?_⟩) ?_ ?_
           rotate_left
           ·
            intro w'
            go_simp
            with_reducible rfl
           rotate_left
           ·
            simp only [Act.put, List.setIfInBounds_toArray, List.set_cons_zero, List.set_cons_succ, i64_w, i32_w]
            rfl
           refine pure_ (i := 8) (N := some 59) (v := ?_) (a' := ?_) #[true, true, true, true, true, true, true, true, true, false, false, false, false, false, false, false, false, false] rfl rfl (zaB HT_.out k9) (fun _ _ _ h => h) (Or.inl ⟨by rfl, ?_⟩) ?_ ?_
           rotate_left
           ·
            intro w'
            go_simp
            with_reducible rfl
           rotate_left
           ·
            simp only [Act.put, List.setIfInBounds_toArray, List.set_cons_zero, List.set_cons_succ, i64_w, i32_w]
            rfl
           refine pure_ (i := 9) (N := some 60) (v := ?_) (a' := ?_) #[true, true, true, true, true, true, true, true, true, true, false, false, false, false, false, false, false, false] rfl rfl (zaB HT_.out k9) (fun _ _ _ h => h) (Or.inl ⟨by rfl, ?_⟩) ?_ ?_
           rotate_left
           ·
            intro w'
            go_simp
            with_reducible rfl
           rotate_left
           ·
            simp only [Act.put, List.setIfInBounds_toArray, List.set_cons_zero, List.set_cons_succ, i64_w, i32_w]
            rfl
           refine pure_ (i := 10) (N := some 61) (v := ?_) (a' := ?_) #[true, true, true, true, true, true, true, true, true, true, true, false, false, false, false, false, false, false] rfl rfl (zaB HT_.out k9) (fun _ _ _ h => h) (Or.inl ⟨by rfl, ?_⟩) ?_ ?_
           rotate_left
           ·
            intro w'
            go_simp
            with_reducible rfl
           rotate_left
           ·
            simp only [Act.put, List.setIfInBounds_toArray, List.set_cons_zero, List.set_cons_succ, i64_w, i32_w]
            rfl
           refine pure_ (i := 11) (N := some 62) (v := ?_) (a' := ?_) #[true, true, true, true, true, true, true, true, true, true, true, true, false, false, false, false, false, false] rfl rfl (zaB HT_.out k9) (fun _ _ _ h => h) (Or.inl ⟨by rfl, ?_⟩) ?_ ?_
           rotate_left
           ·
            intro w'
            go_simp
            with_reducible rfl
           rotate_left
           ·
            simp only [Act.put, List.setIfInBounds_toArray, List.set_cons_zero, List.set_cons_succ, i64_w, i32_w]
            rfl
           refine pure_ (i := 12) (N := some 63) (v := ?_) (a' := ?_) #[true, true, true, true, true, true, true, true, true, true, true, true, true, false, false, false, false, false] rfl rfl (zaB HT_.out k9) (fun _ _ _ h => h) (Or.inl ⟨by rfl, ?_⟩) ?_ ?_
           rotate_left
           ·
            intro w'
            go_simp
            with_reducible rfl
           rotate_left
           ·
            simp only [Act.put, List.setIfInBounds_toArray, List.set_cons_zero, List.set_cons_succ, i64_w, i32_w]
            rfl
           refine pure_ (i := 14) (N := some 65) (v := ?_) (a' := ?_) #[true, true, true, true, true, true, true, true, true, true, true, true, true, false, true, false, false, false] rfl rfl (zaB HT_.out k9) (fun _ _ _ h => h) (Or.inl ⟨by rfl, ?_⟩) ?_ ?_
           rotate_left
           ·
            intro w'
            go_simp
            with_reducible rfl
           rotate_left
           ·
            simp only [Act.put, List.setIfInBounds_toArray, List.set_cons_zero, List.set_cons_succ, i64_w, i32_w]
            rfl
           refine take_ (i := 13) (N := some 64) (v := ?_) (a' := ?_) #[true, true, true, true, true, true, true, true, true, true, true, true, true, true, true, false, false, false] rfl rfl (zbp HT_.out HW_.out k9) (fun _ _ _ h => h) (Or.inl ⟨by rfl, ?_⟩) hHeld ?_ ?_
           rotate_left
           ·
            rintro w' ⟨s0, s1, s2, s3, s4⟩
            go_simp
            with_reducible rfl
           rotate_left
           ·
            simp only [Act.put, List.setIfInBounds_toArray, List.set_cons_zero, List.set_cons_succ, i64_w, i32_w]
            rfl
           refine take_ (i := 15) (N := some 66) (v := ?_) (a' := ?_) #[true, true, true, true, true, true, true, true, true, true, true, true, true, true, true, true, false, false] rfl rfl (zbp HT_.out HW_.out k9) (fun _ _ _ h => h) (Or.inl ⟨by rfl, ?_⟩) hHeld ?_ ?_
           rotate_left
           ·
            rintro w' ⟨s0, s1, s2, s3, s4⟩
            go_simp
            with_reducible rfl
           rotate_left
           ·
            simp only [Act.put, List.setIfInBounds_toArray, List.set_cons_zero, List.set_cons_succ, i64_w, i32_w]
            rfl
           refine pure_ (i := 16) (N := some 67) (v := ?_) (a' := ?_) #[true, true, true, true, true, true, true, true, true, true, true, true, true, true, true, true, true, false] rfl rfl (zaB HT_.out k9) (fun _ _ _ h => h) (Or.inl ⟨by rfl, ?_⟩) ?_ ?_
           rotate_left
           ·
            intro w'
            go_simp
            with_reducible rfl
           rotate_left
           ·
            simp only [Act.put, List.setIfInBounds_toArray, List.set_cons_zero, List.set_cons_succ, i64_w, i32_w]
            rfl
           refine pure_ (i := 17) (N := some 68) (v := ?_) (a' := ?_) #[true, true, true, true, true, true, true, true, true, true, true, true, true, true, true, true, true, true] rfl rfl (zaB HT_.out k9) (fun _ _ _ h => h) (Or.inl ⟨by rfl, ?_⟩) ?_ ?_
           rotate_left
           ·
            intro w'
            go_simp
            with_reducible rfl
           rotate_left
           ·
            simp only [Act.put, List.setIfInBounds_toArray, List.set_cons_zero, List.set_cons_succ, i64_w, i32_w]
            rfl
           refine done_ (zcY HT_.out k9) ?_
           try go_wp2
           go_meet
           case rel => exact ⟨_, (((rdOf ByteArray.empty t196 0).toList != ((zab l0 t193).f0).toList)), (by first | rfl | (simp; done) | (simp [*]; done)), H', ⟨by have := HJ3.out; first | omega | exact Nat.le_refl _⟩, ⟨by (with_reducible repeat (first | apply Kd.zaz | apply Kd.zaG | apply Kd.zaJ)); exact HO198.out⟩, ⟨by (with_reducible repeat (first | refine zaj ?_ _ | refine zan ?_ | refine zak ?_ _)); exact BK195.out⟩, ⟨by repeat (first | (with_reducible first | exact HB.out | apply zaf | apply zad | apply zae | refine zah ?_ GE195.out) | exact HB.out)⟩⟩
         ·
          rw [if_neg c25] at H
          exact absurd H s9
      case rest =>
       clear HC19
       try clear c1
       try clear p1
       try clear q1
       try clear hx1
       try clear qi1
       try clear c2
       try clear p2
       try clear c3
       try clear c5
       try clear c7
       try clear c9
       try clear c9b0
       try clear c9b1
       try clear c9b2
       try clear c14
       try clear c16
       try clear c16b0
       try clear c17
       try clear c17b0
       try clear c19
       try clear p19
       try clear q19
       try clear hx19
       try clear qi19
       try clear c21
       try clear c23
       try clear c23b0
       try clear c23b1
       try clear c23b2
       try clear c24
       try clear c24b0
       try clear c24b1
       try clear c25
       try clear c25b0
       try clear c25b1
       try clear hcz21_0
       try clear hcz21_1
       try clear hcz21_2
       try clear hcz21_3
       try clear hfz21_0
       try clear hfz21_1
       try clear hfz21_2
       try clear hfz21_3
       try clear hx194_0
       try clear hx194_1
       try clear hx194_2
       try clear hx194_3
       try clear hx199_0
       try clear p194
       try clear p199
       try clear p2
       try clear q194
       try clear q199
       obtain ⟨kq, x68_18, rfl, HA, HJ18, HO_7, BK195, HB⟩ := hcut
       cases kq with
       | zero => exact absurd HA.out (by simp [chaperonlaw05_TableAbove.j1])
       | succ kj18 =>
        have H := HA.out
        clear HA
        simp only [chaperonlaw05_TableAbove.j1] at H
        by_cases c28 : x68_18 = true
        ·
         subst c28
         have H1 : (none) = some r := by rw [if_pos rfl] at H; exact H
         clear H
         have H := H1
         clear H1
         exact absurd H s9
        ·
         replace c28 := Bool.eq_false_iff.mpr c28
         subst c28
         have H1 : (if 0 ≤ (wrap64 ((t196.length : Int) - 1)) then (if (wrap64 ((t196.length : Int) - 1)) < (t196.length : Int) then ((zbv.f l0 (rdOf ByteArray.empty t196 (wrap64 ((t196.length : Int) - 1)))).bind fun bt201 => (if bt201.2 = true then (if bt201.1 < 0 then (none) else (if bt201.1 ≥ (l0.length : Int) then (none) else (if 0 ≤ bt201.1 then (if bt201.1 < (l0.length : Int) then (if ((zab l0 bt201.1).f1).toList = ([] : List UInt8) then (chaperonlaw05_TableAbove.j2 kj18 l0 t189 (((t196.length : Int) == 1) != (((zab l0 t193).f1).toList == ([] : List UInt8))) ((zab l0 t193).f0) ((zab l0 t193).f1) ((zab l0 t193).f2) ((zab l0 t193).f3)) else (none)) else (none)) else (none)))) else (none))) else (none)) else (none)) = some r := by rw [if_neg (show ¬ (false = true) by decide)] at H; exact H
         clear H
         have H := H1
         clear H1
         obtain ⟨ji29, hji29⟩ : ∃ j_ : Int, (wrap64 ((t196.length : Int) - 1)) = j_ := ⟨_, rfl⟩
         replace H : (if 0 ≤ (ji29) then (if (ji29) < (t196.length : Int) then ((zbv.f l0 (rdOf ByteArray.empty t196 (ji29))).bind fun bt201 => (if bt201.2 = true then (if bt201.1 < 0 then (none) else (if bt201.1 ≥ (l0.length : Int) then (none) else (if 0 ≤ bt201.1 then (if bt201.1 < (l0.length : Int) then (if ((zab l0 bt201.1).f1).toList = ([] : List UInt8) then (chaperonlaw05_TableAbove.j2 kj18 l0 t189 (((t196.length : Int) == 1) != (((zab l0 t193).f1).toList == ([] : List UInt8))) ((zab l0 t193).f0) ((zab l0 t193).f1) ((zab l0 t193).f2) ((zab l0 t193).f3)) else (none)) else (none)) else (none)))) else (none))) else (none)) else (none)) = some r := by first | (rw [hji29] at H; exact H) | (simp only [hji29] at H ⊢; exact H)
         have hji29w : (IntKind.i64.wrap ((t196.length : Int) - 1)) = ji29 := (i64_w _).trans hji29
         by_cases c30 : 0 ≤ (ji29)
         ·
          rw [if_pos c30] at H
          have c30b0 : decide (0 ≤ (ji29)) = true := decide_eq_true c30
          clear c30
          by_cases c31 : (ji29) < (t196.length : Int)
          ·
           rw [if_pos c31] at H
           have c31b0 : decide ((ji29) < (t196.length : Int)) = true := decide_eq_true c31
           clear c31
           replace H := Option.bind_eq_some_iff.mp H
           obtain ⟨⟨t201, t202⟩, A320, H⟩ := H
           replace H : (if t202 = true then (if t201 < 0 then (none) else (if t201 ≥ (l0.length : Int) then (none) else (if 0 ≤ t201 then (if t201 < (l0.length : Int) then (if ((zab l0 t201).f1).toList = ([] : List UInt8) then (chaperonlaw05_TableAbove.j2 kj18 l0 t189 (((t196.length : Int) == 1) != (((zab l0 t193).f1).toList == ([] : List UInt8))) ((zab l0 t193).f0) ((zab l0 t193).f1) ((zab l0 t193).f2) ((zab l0 t193).f3)) else (none)) else (none)) else (none)))) else (none)) = some r := H
           have A32 := zaa.mk A320
           clear A320
           have HC33 := zaa.mk H
           clear H
           obtain ⟨Ao34, co34, eo34⟩ := Kd.za6 HO_7.out
           subst eo34
           have p200 : 0 ≤ ((ji29) : Int) := of_decide_eq_true (by first | (with_reducible assumption) | assumption)
           have q200 : (ji29) < (t196.length : Int) := of_decide_eq_true (by first | (with_reducible assumption) | assumption)
           obtain ⟨ad200, e200, hx200_0⟩ := Kd.zcx (Kd.zbb HO_7.out).2.2 (ji29) p200 q200
           cases e200
           replace p200 := eq_true p200
           replace q200 := eq_true q200
           go_upto_region 9 with (first | ((with_reducible refine zbc (f := 10) rfl ?_); refine zcL (some 77) rfl rfl Tryd.func10 k9 rfl #[.slice (some ad194) l0.length c0, .string (rdOf ByteArray.empty t196 (ji29))] rfl (by (try simp only [List.map_toArray, List.map_cons, List.map_nil]); first | done | (simp only [hji29]; rfl) | rfl | (simp only [List.length_drop, List.length_take]; rfl)) ?_; (with_reducible refine (zbv.calls _ _ l0 (rdOf ByteArray.empty t196 (ji29)) t201 t202 _ ?side1 ?side2 A32.out).mono ?_); (case side1 => repeat (first | exact (Kd.zax HR0.out HB.out) | (with_reducible refine Kd.zbs ?_ _) | (with_reducible refine Kd.zbz ?_ _) | (with_reducible refine Kd.zbZ ?_))); (case side2 => exact HC0.out); rintro e w35 ⟨rfl, hb⟩; refine ⟨_, rfl, ?_⟩; have n0_ := zaa.mk (Kd.zaT (by (with_reducible repeat (first | apply Kd.zaz | apply Kd.zaG | apply Kd.zaJ)); exact HO_7.out) hb); have n1_ := zaa.mk (zaU (g := gb195) (o := .cells #[.string ((zab l0 t193).f0), .string ((zab l0 t193).f1), .slice A194_2 ((zab l0 t193).f2).length c194_2, .slice A194_3 ((zab l0 t193).f3).length c194_3] 45 (0, 0)) (by (with_reducible repeat (first | refine zaj ?_ _ | refine zan ?_ | refine zak ?_ _)); exact BK195.out) hb); have n2_ := zaa.mk (zaL (by repeat (first | (with_reducible first | exact HB.out | apply zaf | apply zad | apply zae | refine zah ?_ GE195.out) | exact HB.out)) hb); clear HO_7; clear BK195; clear HB; have HO_7 := n0_; have BK195 := n1_; have HB := n2_; clear n0_ n1_ n2_; (try clear hb); (try clear hb2); (try clear hk); (try clear hi)))
           (try simp only [Act.put, List.setIfInBounds_toArray, List.set_cons_zero, List.set_cons_succ])
           go_cut [108] (fun v108 wc => ∃ (kq : Nat) (x108_32 : Bool), v108 = .bool x108_32 ∧ zaa (chaperonlaw05_TableAbove.j2 kq l0 t189 x108_32 ((zab l0 t193).f0) ((zab l0 t193).f1) ((zab l0 t193).f2) ((zab l0 t193).f3) = some r) ∧ zaa (kq ≤ kj18) ∧ zaa (wc.heap[gb195]? = some (.cells #[.string ((zab l0 t193).f0), .string ((zab l0 t193).f1), (.slice A194_2 ((zab l0 t193).f2).length c194_2), (.slice A194_3 ((zab l0 t193).f3).length c194_3)] 45 (0, 0))) ∧ zaa (Below w.heap.size w wc))
           case first =>
            have H := HC33.out
            clear HC33
            by_cases c36 : t202 = true
            ·
             subst c36
             have H1 : (if t201 < 0 then (none) else (if t201 ≥ (l0.length : Int) then (none) else (if 0 ≤ t201 then (if t201 < (l0.length : Int) then (if ((zab l0 t201).f1).toList = ([] : List UInt8) then (chaperonlaw05_TableAbove.j2 kj18 l0 t189 (((t196.length : Int) == 1) != (((zab l0 t193).f1).toList == ([] : List UInt8))) ((zab l0 t193).f0) ((zab l0 t193).f1) ((zab l0 t193).f2) ((zab l0 t193).f3)) else (none)) else (none)) else (none)))) = some r := by rw [if_pos rfl] at H; exact H
             clear H
             have H := H1
             clear H1
             by_cases c37 : t201 < 0
             ·
              rw [if_pos c37] at H
              exact absurd H s9
             ·
              rw [if_neg c37] at H
              have c37b0 : decide (t201 < 0) = false := decide_eq_false c37
              clear c37
              (first | rw [c37b0] | (simp only [i64_w, i32_w]; rw [c37b0]) | skip)
              by_cases c38 : t201 ≥ (l0.length : Int)
              ·
               rw [if_pos c38] at H
               exact absurd H s9
              ·
               rw [if_neg c38] at H
               have c38b0 : decide ((l0.length : Int) ≤ t201) = false := decide_eq_false c38
               clear c38
               by_cases c39 : 0 ≤ t201
               ·
                rw [if_pos c39] at H
                have c39b0 : decide (0 ≤ t201) = true := decide_eq_true c39
                clear c39
                by_cases c40 : t201 < (l0.length : Int)
                ·
                 rw [if_pos c40] at H
                 have c40b0 : decide (t201 < (l0.length : Int)) = true := decide_eq_true c40
                 clear c40
                 by_cases c41 : ((zab l0 t201).f1).toList = ([] : List UInt8)
                 ·
                  rw [if_pos c41] at H
                  have c41b0 : (((zab l0 t201).f1).toList == ([] : List UInt8)) = true := beq_iff_eq.mpr c41
                  have c41b1 : (((zab l0 t201).f1).toList != ([] : List UInt8)) = false := bne_eq_false_iff_eq.mpr c41
                  clear c41
                  as_aux_lemma =>
                   have H' := zaa.mk H
                   clear H
                   have p203 : 0 ≤ (t201 : Int) := of_decide_eq_true (by first | (with_reducible assumption) | assumption)
                   have q203 : t201 < (l0.length : Int) := of_decide_eq_true (by first | (with_reducible assumption) | assumption)
                   obtain ⟨ad203, A203_2, c203_2, A203_3, c203_3, e203, hx203_0, hx203_1, hx203_2, hx203_3, hl203_2, hi203_2, hl203_3, hi203_3⟩ := zbY HR0.out t201 p203 q203
                   obtain rfl : ad194 = ad203 := (by injection e203)
                   replace hx203_0 := (HB.out.cell (World.block_lt_of_cell? w _ hx203_0)).trans hx203_0
                   replace hx203_1 := (HB.out.cell (World.block_lt_of_cell? w _ hx203_1)).trans hx203_1
                   replace hx203_2 := (HB.out.cell (World.block_lt_of_cell? w _ hx203_2)).trans hx203_2
                   replace hx203_3 := (HB.out.cell (World.block_lt_of_cell? w _ hx203_3)).trans hx203_3
                   have HR203_2 := zaa.mk hi203_2
                   have HC203_2 := zaa.mk hl203_2
                   clear hi203_2 hl203_2
                   have HR203_3 := zaa.mk hi203_3
                   have HC203_3 := zaa.mk hl203_3
                   clear hi203_3 hl203_3
                   replace p203 := eq_true p203
                   replace q203 := eq_true q203
                   have hcz42_0 : w35.cell? ⟨gb195, 0, none⟩ = some (.string ((zab l0 t193).f0)) := (zai BK195.out 0).trans rfl
                   have hcz42_1 : w35.cell? ⟨gb195, 1, none⟩ = some (.string ((zab l0 t193).f1)) := (zai BK195.out 1).trans rfl
                   have hcz42_2 : w35.cell? ⟨gb195, 2, none⟩ = some (.slice A194_2 ((zab l0 t193).f2).length c194_2) := (zai BK195.out 2).trans rfl
                   have hcz42_3 : w35.cell? ⟨gb195, 3, none⟩ = some (.slice A194_3 ((zab l0 t193).f3).length c194_3) := (zai BK195.out 3).trans rfl
                   have hfz42_0 := zal BK195.out 0
                   have hfz42_1 := zal BK195.out 1
                   have hfz42_2 := zal BK195.out 2
                   have hfz42_3 := zal BK195.out 3
                   go_wp2
                   go_meet
                   case rel => exact ⟨_, ((((t196.length : Int) == 1) != (((zab l0 t193).f1).toList == ([] : List UInt8)))), (by first | rfl | (simp; done) | (simp [*]; done) | (simp [bne]; done)), H', ⟨by have := HJ3.out; have := HJ18.out; first | omega | exact Nat.le_refl _⟩, ⟨by (with_reducible repeat (first | refine zaj ?_ _ | refine zan ?_ | refine zak ?_ _)); exact BK195.out⟩, ⟨by repeat (first | (with_reducible first | exact HB.out | apply zaf | apply zad | apply zae | refine zah ?_ GE195.out) | exact HB.out)⟩⟩
                 ·
                  rw [if_neg c41] at H
                  exact absurd H s9
                ·
                 rw [if_neg c40] at H
                 exact absurd H s9
               ·
                rw [if_neg c39] at H
                exact absurd H s9
            ·
             replace c36 := Bool.eq_false_iff.mpr c36
             subst c36
             have H1 : (none) = some r := by rw [if_neg (show ¬ (false = true) by decide)] at H; exact H
             clear H
             have H := H1
             clear H1
             exact absurd H s9
           case rest =>
            clear HC33
            try clear c1
            try clear p1
            try clear q1
            try clear hx1
            try clear qi1
            try clear c2
            try clear p2
            try clear q2
            try clear hx2
            try clear c3
            try clear c4
            try clear c5
            try clear p6
            try clear c7
            try clear c9
            try clear c9b0
            try clear c9b1
            try clear c9b2
            try clear c10
            try clear c14
            try clear c16
            try clear c16b0
            try clear c17
            try clear c17b0
            try clear c19
            try clear p19
            try clear q19
            try clear hx19
            try clear qi19
            try clear c20
            try clear p20
            try clear q20
            try clear hx20
            try clear c21
            try clear c23
            try clear c23b0
            try clear c23b1
            try clear c23b2
            try clear c24
            try clear c24b0
            try clear c24b1
            try clear c25
            try clear c25b0
            try clear c25b1
            try clear c28
            try clear c30
            try clear c30b0
            try clear c31
            try clear c31b0
            try clear c36
            try clear c37
            try clear c37b0
            try clear c38
            try clear c38b0
            try clear c39
            try clear c39b0
            try clear c40
            try clear c40b0
            try clear c41
            try clear c41b0
            try clear c41b1
            try clear hcz21_0
            try clear hcz21_1
            try clear hcz21_2
            try clear hcz21_3
            try clear hcz42_0
            try clear hcz42_1
            try clear hcz42_2
            try clear hcz42_3
            try clear hfz21_0
            try clear hfz21_1
            try clear hfz21_2
            try clear hfz21_3
            try clear hfz42_0
            try clear hfz42_1
            try clear hfz42_2
            try clear hfz42_3
            try clear hx194_0
            try clear hx194_1
            try clear hx194_2
            try clear hx194_3
            try clear hx199_0
            try clear hx200_0
            try clear hx203_0
            try clear hx203_1
            try clear hx203_2
            try clear hx203_3
            try clear p1
            try clear p19
            try clear p194
            try clear p199
            try clear p2
            try clear p200
            try clear p203
            try clear q1
            try clear q19
            try clear q194
            try clear q199
            try clear q200
            try clear q203
            obtain ⟨kq, x108_32, rfl, HA, HJ32, BK195, HB⟩ := hcut
            cases kq with
            | zero => exact absurd HA.out (by simp [chaperonlaw05_TableAbove.j2])
            | succ kj32 =>
             have H := HA.out
             clear HA
             simp only [chaperonlaw05_TableAbove.j2] at H
             by_cases c43 : x108_32 = true
             ·
              subst c43
              have H1 : (none) = some r := by rw [if_pos rfl] at H; exact H
              clear H
              have H := H1
              clear H1
              exact absurd H s9
             ·
              replace c43 := Bool.eq_false_iff.mpr c43
              subst c43
              have H1 : (if ((zab l0 t193).f1).toList = ([] : List UInt8) then (some t189) else ((zaq.f kj32 l0 ((zab l0 t193).f1)).bind fun t204 => (chaperonlaw05_TableAbove.l0 kj32 l0 t189 t204 0 ((zab l0 t193).f0) ((zab l0 t193).f1) ((zab l0 t193).f2) ((zab l0 t193).f3)))) = some r := by rw [if_neg (show ¬ (false = true) by decide)] at H; exact H
              clear H
              have H := H1
              clear H1
              by_cases c44 : ((zab l0 t193).f1).toList = ([] : List UInt8)
              ·
               rw [if_pos c44] at H
               have c44b0 : (((zab l0 t193).f1).toList == ([] : List UInt8)) = true := beq_iff_eq.mpr c44
               have c44b1 : (((zab l0 t193).f1).toList != ([] : List UInt8)) = false := bne_eq_false_iff_eq.mpr c44
               clear c44
               as_aux_lemma =>
                obtain rfl := Option.some.inj H
                have hcz45_0 : wc.cell? ⟨gb195, 0, none⟩ = some (.string ((zab l0 t193).f0)) := (zai BK195.out 0).trans rfl
                have hcz45_1 : wc.cell? ⟨gb195, 1, none⟩ = some (.string ((zab l0 t193).f1)) := (zai BK195.out 1).trans rfl
                have hcz45_2 : wc.cell? ⟨gb195, 2, none⟩ = some (.slice A194_2 ((zab l0 t193).f2).length c194_2) := (zai BK195.out 2).trans rfl
                have hcz45_3 : wc.cell? ⟨gb195, 3, none⟩ = some (.slice A194_3 ((zab l0 t193).f3).length c194_3) := (zai BK195.out 3).trans rfl
                have hfz45_0 := zal BK195.out 0
                have hfz45_1 := zal BK195.out 1
                have hfz45_2 := zal BK195.out 2
                have hfz45_3 := zal BK195.out 3
                go_wp2
                go_ret
                exact ⟨by first | rfl | (simp [zaV, zaW] <;> rfl) | (simp only [← hji29]; first | rfl | (simp [zaV, zaW] <;> rfl)) | (simp [*, zaV, zaW] <;> rfl), by repeat (first | (with_reducible first | exact HB.out | apply zaf | apply zad | apply zae | refine zah ?_ GE195.out) | exact HB.out)⟩
              ·
               rw [if_neg c44] at H
               have c44b0 : (((zab l0 t193).f1).toList == ([] : List UInt8)) = false := beq_eq_false_iff_ne.mpr c44
               have c44b1 : (((zab l0 t193).f1).toList != ([] : List UInt8)) = true := bne_iff_ne.mpr c44
               replace H := Option.bind_eq_some_iff.mp H
               obtain ⟨t204, A460, H⟩ := H
               replace H : (chaperonlaw05_TableAbove.l0 kj32 l0 t189 t204 0 ((zab l0 t193).f0) ((zab l0 t193).f1) ((zab l0 t193).f2) ((zab l0 t193).f3)) = some r := H
               have A46 := zaa.mk A460
               clear A460
               have H' := zaa.mk H
               clear H
               have hcz47_0 : wc.cell? ⟨gb195, 0, none⟩ = some (.string ((zab l0 t193).f0)) := (zai BK195.out 0).trans rfl
               have hcz47_1 : wc.cell? ⟨gb195, 1, none⟩ = some (.string ((zab l0 t193).f1)) := (zai BK195.out 1).trans rfl
               have hcz47_2 : wc.cell? ⟨gb195, 2, none⟩ = some (.slice A194_2 ((zab l0 t193).f2).length c194_2) := (zai BK195.out 2).trans rfl
               have hcz47_3 : wc.cell? ⟨gb195, 3, none⟩ = some (.slice A194_3 ((zab l0 t193).f3).length c194_3) := (zai BK195.out 3).trans rfl
               have hfz47_0 := zal BK195.out 0
               have hfz47_1 := zal BK195.out 1
               have hfz47_2 := zal BK195.out 2
               have hfz47_3 := zal BK195.out 3
               go_wp2_with (first | ((with_reducible refine zbc (f := 14) rfl ?_); refine zcL (some 116) rfl rfl Tryd.func14 k9 rfl #[.slice (some ad194) l0.length c0, .string ((zab l0 t193).f1)] rfl m9 ?_; (with_reducible refine (zaq.calls kj32 _ _ l0 ((zab l0 t193).f1) t204 _ ?side1 ?side2 A46.out).mono ?_); (case side1 => repeat (first | exact (Kd.zax HR0.out HB.out) | (with_reducible refine Kd.zbs ?_ _) | (with_reducible refine Kd.zbz ?_ _) | (with_reducible refine Kd.zbZ ?_))); (case side2 => exact HC0.out); rintro e w48 ⟨v205, rfl, ho0, hb⟩; refine ⟨_, rfl, ?_⟩; have n0_ := zaa.mk (Kd.zbJ ho0 (zaD (by repeat (first | (with_reducible first | exact HB.out | apply zaf | apply zad | apply zae | refine zah ?_ GE195.out) | exact HB.out)))); have n1_ := zaa.mk (zaU (g := gb195) (o := .cells #[.string ((zab l0 t193).f0), .string ((zab l0 t193).f1), .slice A194_2 ((zab l0 t193).f2).length c194_2, .slice A194_3 ((zab l0 t193).f3).length c194_3] 45 (0, 0)) (by (with_reducible repeat (first | refine zaj ?_ _ | refine zan ?_ | refine zak ?_ _)); exact BK195.out) hb); have n2_ := zaa.mk (zaL (by repeat (first | (with_reducible first | exact HB.out | apply zaf | apply zad | apply zae | refine zah ?_ GE195.out) | exact HB.out)) hb); clear BK195; clear HB; have HO206 := n0_; have BK195 := n1_; have HB := n2_; clear n0_ n1_ n2_; (try clear hb); (try clear hb2); (try clear hk); (try clear hi); (try clear ho0)))
               go_loopg [11] kj32 (fun kq v11 w' => ∃ (x11_4 : Int), v11 = .int .i64 x11_4 ∧ zaa (chaperonlaw05_TableAbove.l0 kq l0 t189 t204 x11_4 ((zab l0 t193).f0) ((zab l0 t193).f1) ((zab l0 t193).f2) ((zab l0 t193).f3) = some r) ∧ zaa (kq ≤ kj32) ∧ zaa (Kd.R k42 42 w' w.heap.size (fun _ => True) v205 t204) ∧ zaa (w'.heap[gb195]? = some (.cells #[.string ((zab l0 t193).f0), .string ((zab l0 t193).f1), (.slice A194_2 ((zab l0 t193).f2).length c194_2), (.slice A194_3 ((zab l0 t193).f3).length c194_3)] 45 (0, 0))) ∧ zaa (Below w.heap.size w w'))
               case atStart => exact ⟨(0), (by first | rfl | (simp; done) | (simp [*]; done)), H', ⟨Nat.le_refl _⟩, ⟨by (with_reducible repeat (first | apply Kd.zaz | apply Kd.zaG | apply Kd.zaJ)); exact HO206.out⟩, ⟨by (with_reducible repeat (first | refine zaj ?_ _ | refine zan ?_ | refine zak ?_ _)); exact BK195.out⟩, ⟨by repeat (first | (with_reducible first | exact HB.out | apply zaf | apply zad | apply zae | refine zah ?_ GE195.out) | exact HB.out)⟩⟩
               case round =>
                clear H'
                try clear c1
                try clear p1
                try clear q1
                try clear hx1
                try clear qi1
                try clear c2
                try clear p2
                try clear q2
                try clear hx2
                try clear c3
                try clear c4
                try clear c5
                try clear p6
                try clear c7
                try clear c9
                try clear c9b0
                try clear c9b1
                try clear c9b2
                try clear c10
                try clear c14
                try clear c16
                try clear c16b0
                try clear c17
                try clear c17b0
                try clear c19
                try clear p19
                try clear q19
                try clear hx19
                try clear qi19
                try clear c20
                try clear p20
                try clear q20
                try clear hx20
                try clear c21
                try clear c23
                try clear c23b0
                try clear c23b1
                try clear c23b2
                try clear c24
                try clear c24b0
                try clear c24b1
                try clear c25
                try clear c25b0
                try clear c25b1
                try clear c28
                try clear c30
                try clear c30b0
                try clear c31
                try clear c31b0
                try clear c36
                try clear c37
                try clear c37b0
                try clear c38
                try clear c38b0
                try clear c39
                try clear c39b0
                try clear c40
                try clear c40b0
                try clear c41
                try clear c41b0
                try clear c41b1
                try clear c43
                try clear c44
                try clear c44b0
                try clear c44b1
                try clear hcz21_0
                try clear hcz21_1
                try clear hcz21_2
                try clear hcz21_3
                try clear hcz42_0
                try clear hcz42_1
                try clear hcz42_2
                try clear hcz42_3
                try clear hcz45_0
                try clear hcz45_1
                try clear hcz45_2
                try clear hcz45_3
                try clear hcz47_0
                try clear hcz47_1
                try clear hcz47_2
                try clear hcz47_3
                try clear hfz21_0
                try clear hfz21_1
                try clear hfz21_2
                try clear hfz21_3
                try clear hfz42_0
                try clear hfz42_1
                try clear hfz42_2
                try clear hfz42_3
                try clear hfz45_0
                try clear hfz45_1
                try clear hfz45_2
                try clear hfz45_3
                try clear hfz47_0
                try clear hfz47_1
                try clear hfz47_2
                try clear hfz47_3
                try clear hx194_0
                try clear hx194_1
                try clear hx194_2
                try clear hx194_3
                try clear hx199_0
                try clear hx200_0
                try clear hx203_0
                try clear hx203_1
                try clear hx203_2
                try clear hx203_3
                try clear p1
                try clear p19
                try clear p194
                try clear p199
                try clear p2
                try clear p20
                try clear p200
                try clear p203
                try clear p6
                try clear q1
                try clear q19
                try clear q194
                try clear q199
                try clear q2
                try clear q20
                try clear q200
                try clear q203
                obtain ⟨x11_4, rfl, HA, HK4, HO_10, BK195, HB⟩ := hrel
                cases gk with
                | zero => exact absurd HA.out (by simp [chaperonlaw05_TableAbove.l0])
                | succ k4 =>
                 have H := HA.out
                 clear HA
                 simp only [chaperonlaw05_TableAbove.l0] at H
                 by_cases c49 : x11_4 < (t204.length : Int)
                 ·
                  rw [if_pos c49] at H
                  have c49b0 : decide (x11_4 < (t204.length : Int)) = true := decide_eq_true c49
                  clear c49
                  by_cases c50 : 0 ≤ x11_4
                  ·
                   rw [if_pos c50] at H
                   have c50b0 : decide (0 ≤ x11_4) = true := decide_eq_true c50
                   clear c50
                   replace H := Option.bind_eq_some_iff.mp H
                   obtain ⟨⟨t208, t209⟩, A510, H⟩ := H
                   replace H : ((za3.f l0 ((zab l0 t193).f0) ((zaI t204 x11_4).f0)).bind fun bt211 => ((za3.f l0 ((zab l0 t193).f1) ((zaI t204 x11_4).f0)).bind fun bt214 => ((zaS.f l0 ((zab l0 t193).f0) ((zaI t204 x11_4).f0)).bind fun bt217 => ((zaS.f l0 ((zab l0 t193).f1) ((zaI t204 x11_4).f0)).bind fun bt226 => (if t209 = true then (if t208 = ((zaI t204 x11_4).f1) then (if bt211.1.toList = bt214.1.toList then (if (bt211.2 != bt214.2) = true then (none) else (if (bt217.2.2.2.2 != bt226.2.2.2.2) = true then (none) else (if bt217.2.2.1.toList = bt226.2.2.1.toList then (chaperonlaw05_TableAbove.j4 k4 l0 t189 t204 x11_4 ((bt217.2.1.length : Int) != (bt226.2.1.length : Int)) ((zab l0 t193).f0) ((zab l0 t193).f1) ((zab l0 t193).f2) ((zab l0 t193).f3) bt217.1 bt217.2.1 bt217.2.2.1 bt226.1 bt226.2.1 bt226.2.2.1) else (none)))) else (none)) else (none)) else (none)))))) = some r := H
                   have A51 := zaa.mk A510
                   clear A510
                   replace H := Option.bind_eq_some_iff.mp H
                   obtain ⟨⟨t211, t212⟩, A520, H⟩ := H
                   replace H : ((za3.f l0 ((zab l0 t193).f1) ((zaI t204 x11_4).f0)).bind fun bt214 => ((zaS.f l0 ((zab l0 t193).f0) ((zaI t204 x11_4).f0)).bind fun bt217 => ((zaS.f l0 ((zab l0 t193).f1) ((zaI t204 x11_4).f0)).bind fun bt226 => (if t209 = true then (if t208 = ((zaI t204 x11_4).f1) then (if t211.toList = bt214.1.toList then (if (t212 != bt214.2) = true then (none) else (if (bt217.2.2.2.2 != bt226.2.2.2.2) = true then (none) else (if bt217.2.2.1.toList = bt226.2.2.1.toList then (chaperonlaw05_TableAbove.j4 k4 l0 t189 t204 x11_4 ((bt217.2.1.length : Int) != (bt226.2.1.length : Int)) ((zab l0 t193).f0) ((zab l0 t193).f1) ((zab l0 t193).f2) ((zab l0 t193).f3) bt217.1 bt217.2.1 bt217.2.2.1 bt226.1 bt226.2.1 bt226.2.2.1) else (none)))) else (none)) else (none)) else (none))))) = some r := H
                   have A52 := zaa.mk A520
                   clear A520
                   replace H := Option.bind_eq_some_iff.mp H
                   obtain ⟨⟨t214, t215⟩, A530, H⟩ := H
                   replace H : ((zaS.f l0 ((zab l0 t193).f0) ((zaI t204 x11_4).f0)).bind fun bt217 => ((zaS.f l0 ((zab l0 t193).f1) ((zaI t204 x11_4).f0)).bind fun bt226 => (if t209 = true then (if t208 = ((zaI t204 x11_4).f1) then (if t211.toList = t214.toList then (if (t212 != t215) = true then (none) else (if (bt217.2.2.2.2 != bt226.2.2.2.2) = true then (none) else (if bt217.2.2.1.toList = bt226.2.2.1.toList then (chaperonlaw05_TableAbove.j4 k4 l0 t189 t204 x11_4 ((bt217.2.1.length : Int) != (bt226.2.1.length : Int)) ((zab l0 t193).f0) ((zab l0 t193).f1) ((zab l0 t193).f2) ((zab l0 t193).f3) bt217.1 bt217.2.1 bt217.2.2.1 bt226.1 bt226.2.1 bt226.2.2.1) else (none)))) else (none)) else (none)) else (none)))) = some r := H
                   have A53 := zaa.mk A530
                   clear A530
                   replace H := Option.bind_eq_some_iff.mp H
                   obtain ⟨⟨t217, t218, t221, t222, t223⟩, A540, H⟩ := H
                   replace H : ((zaS.f l0 ((zab l0 t193).f1) ((zaI t204 x11_4).f0)).bind fun bt226 => (if t209 = true then (if t208 = ((zaI t204 x11_4).f1) then (if t211.toList = t214.toList then (if (t212 != t215) = true then (none) else (if (t223 != bt226.2.2.2.2) = true then (none) else (if t221.toList = bt226.2.2.1.toList then (chaperonlaw05_TableAbove.j4 k4 l0 t189 t204 x11_4 ((t218.length : Int) != (bt226.2.1.length : Int)) ((zab l0 t193).f0) ((zab l0 t193).f1) ((zab l0 t193).f2) ((zab l0 t193).f3) t217 t218 t221 bt226.1 bt226.2.1 bt226.2.2.1) else (none)))) else (none)) else (none)) else (none))) = some r := H
                   have A54 := zaa.mk A540
                   clear A540
                   replace H := Option.bind_eq_some_iff.mp H
                   obtain ⟨⟨t226, t227, t230, t231, t232⟩, A550, H⟩ := H
                   replace H : (if t209 = true then (if t208 = ((zaI t204 x11_4).f1) then (if t211.toList = t214.toList then (if (t212 != t215) = true then (none) else (if (t223 != t232) = true then (none) else (if t221.toList = t230.toList then (chaperonlaw05_TableAbove.j4 k4 l0 t189 t204 x11_4 ((t218.length : Int) != (t227.length : Int)) ((zab l0 t193).f0) ((zab l0 t193).f1) ((zab l0 t193).f2) ((zab l0 t193).f3) t217 t218 t221 t226 t227 t230) else (none)))) else (none)) else (none)) else (none)) = some r := H
                   have A55 := zaa.mk A550
                   clear A550
                   have HC56 := zaa.mk H
                   clear H
                   obtain ⟨Ao57, co57, eo57⟩ := Kd.za6 HO_10.out
                   subst eo57
                   try go_wp2
                   have n0_ := zaa.mk (Kd.zaJ HO_10.out)
                   have n1_ := zaa.mk (zan BK195.out)
                   have n2_ := zaa.mk (zae HB.out)
                   clear HO_10
                   clear BK195
                   clear HB
                   have HO_10 := n0_
                   have BK195 := n1_
                   have HB := n2_
                   clear n0_ n1_ n2_
                   have p207 : 0 ≤ (x11_4 : Int) := of_decide_eq_true (by first | (with_reducible assumption) | assumption)
                   have q207 : x11_4 < (t204.length : Int) := of_decide_eq_true (by first | (with_reducible assumption) | assumption)
                   obtain ⟨ad207, e207, hx207_0, hx207_1⟩ := zcS (Kd.zbb HO_10.out).2.2 x11_4 p207 q207
                   cases e207
                   replace p207 := eq_true p207
                   replace q207 := eq_true q207
                   refine zdZ (n := 14) (S := fun w' => w'.cell? ⟨gb195, 0, none⟩ = some (.string ((zab l0 t193).f0)) ∧ w'.cell? ⟨gb195, 1, none⟩ = some (.string ((zab l0 t193).f1)) ∧ w'.cell? ⟨gb195, 2, none⟩ = some (.slice A194_2 ((zab l0 t193).f2).length c194_2) ∧ w'.cell? ⟨gb195, 3, none⟩ = some (.slice A194_3 ((zab l0 t193).f3).length c194_3) ∧ w'.cell? (ad207.add ((x11_4).toNat * 2)) = some (.string ((zaI t204 x11_4).f0)) ∧ w'.cell? ⟨(ad207.add ((x11_4).toNat * 2)).block, (ad207.add ((x11_4).toNat * 2)).off + 1, none⟩ = some (.int .i64 ((zaI t204 x11_4).f1))) (ds := []) #[false, false, false, false, false, false, false, false, false, false, false, false, false, false] k9 rfl rfl ⟨(zai BK195.out 0).trans rfl, (zai BK195.out 1).trans rfl, (zai BK195.out 2).trans rfl, (zai BK195.out 3).trans rfl, hx207_0, hx207_1⟩ (fun hHeld => ?_); refine zce chaperonlaw05_TableAbove.tab17 chaperonlaw05_TableAbove.bits17 (fun HT_ HW_ => ?_)
                   generalize wr.drew = w58 at HO_10 BK195 HB hx207_0 hx207_1 hHeld ⊢
                   refine pure_ (i := 0) (N := some 124) (v := ?_) (a' := ?_) #[true, false, false, false, false, false, false, false, false, false, false, false, false, false] rfl rfl (zaB HT_.out k9) (fun _ _ _ h => h) (Or.inl ⟨by rfl, ?_⟩) ?_ ?_
                   rotate_left
                   ·
                    intro w'
                    go_simp
                    with_reducible rfl
                   rotate_left
                   ·
                    simp only [Act.put, List.setIfInBounds_toArray, List.set_cons_zero, List.set_cons_succ, i64_w, i32_w]
                    rfl
                   refine pure_ (i := 1) (N := some 125) (v := ?_) (a' := ?_) #[true, true, false, false, false, false, false, false, false, false, false, false, false, false] rfl rfl (zaB HT_.out k9) (fun _ _ _ h => h) (Or.inl ⟨by rfl, ?_⟩) ?_ ?_
                   rotate_left
                   ·
                    intro w'
                    go_simp
                    with_reducible rfl
                   rotate_left
                   ·
                    simp only [Act.put, List.setIfInBounds_toArray, List.set_cons_zero, List.set_cons_succ, i64_w, i32_w]
                    rfl
                   refine pure_ (i := 3) (N := some 127) (v := ?_) (a' := ?_) #[true, true, false, true, false, false, false, false, false, false, false, false, false, false] rfl rfl (zaB HT_.out k9) (fun _ _ _ h => h) (Or.inl ⟨by rfl, ?_⟩) ?_ ?_
                   rotate_left
                   ·
                    intro w'
                    go_simp
                    with_reducible rfl
                   rotate_left
                   ·
                    simp only [Act.put, List.setIfInBounds_toArray, List.set_cons_zero, List.set_cons_succ, i64_w, i32_w]
                    rfl
                   refine pure_ (i := 4) (N := some 128) (v := ?_) (a' := ?_) #[true, true, false, true, true, false, false, false, false, false, false, false, false, false] rfl rfl (zaB HT_.out k9) (fun _ _ _ h => h) (Or.inl ⟨by rfl, ?_⟩) ?_ ?_
                   rotate_left
                   ·
                    intro w'
                    go_simp
                    with_reducible rfl
                   rotate_left
                   ·
                    simp only [Act.put, List.setIfInBounds_toArray, List.set_cons_zero, List.set_cons_succ, i64_w, i32_w]
                    rfl
                   refine pure_ (i := 5) (N := some 129) (v := ?_) (a' := ?_) #[true, true, false, true, true, true, false, false, false, false, false, false, false, false] rfl rfl (zaB HT_.out k9) (fun _ _ _ h => h) (Or.inl ⟨by rfl, ?_⟩) ?_ ?_
                   rotate_left
                   ·
                    intro w'
                    go_simp
                    with_reducible rfl
                   rotate_left
                   ·
                    simp only [Act.put, List.setIfInBounds_toArray, List.set_cons_zero, List.set_cons_succ, i64_w, i32_w]
                    rfl
                   refine pure_ (i := 6) (N := some 130) (v := ?_) (a' := ?_) #[true, true, false, true, true, true, true, false, false, false, false, false, false, false] rfl rfl (zaB HT_.out k9) (fun _ _ _ h => h) (Or.inl ⟨by rfl, ?_⟩) ?_ ?_
                   rotate_left
                   ·
                    intro w'
                    go_simp
                    with_reducible rfl
                   rotate_left
                   ·
                    simp only [Act.put, List.setIfInBounds_toArray, List.set_cons_zero, List.set_cons_succ, i64_w, i32_w]
                    rfl
                   refine take_ (i := 2) (N := some 126) (v := ?_) (a' := ?_) #[true, true, true, true, true, true, true, false, false, false, false, false, false, false] rfl rfl (zbp HT_.out HW_.out k9) (fun _ _ _ h => h) (Or.inl ⟨by rfl, ?_⟩) hHeld ?_ ?_
                   rotate_left
                   ·
                    rintro w' ⟨s0, s1, s2, s3, s4, s5⟩
                    go_simp
                    with_reducible rfl
                   rotate_left
                   ·
                    simp only [Act.put, List.setIfInBounds_toArray, List.set_cons_zero, List.set_cons_succ, i64_w, i32_w]
                    rfl
                   refine take_ (i := 7) (N := some 131) (v := ?_) (a' := ?_) #[true, true, true, true, true, true, true, true, false, false, false, false, false, false] rfl rfl (zbp HT_.out HW_.out k9) (fun _ _ _ h => h) (Or.inl ⟨by rfl, ?_⟩) hHeld ?_ ?_
                   rotate_left
                   ·
                    rintro w' ⟨s0, s1, s2, s3, s4, s5⟩
                    go_simp
                    with_reducible rfl
                   rotate_left
                   ·
                    simp only [Act.put, List.setIfInBounds_toArray, List.set_cons_zero, List.set_cons_succ, i64_w, i32_w]
                    rfl
                   refine one_ (i := 8) (N := some 132) #[true, true, true, true, true, true, true, true, true, false, false, false, false, false] rfl rfl (zdb HT_.out k9) d9 (fun K hK => ?_)
                   refine goes_ Tryd.func9 k9 rfl #[.slice (some ad194) l0.length c0, .string ((zab l0 t193).f0), .string ((zaI t204 x11_4).f0)] (by rfl) rfl rfl m9 ?_
                   with_reducible refine (zaQ.calls k4 _ _ l0 ((zab l0 t193).f0) ((zaI t204 x11_4).f0) t208 t209 _ ?side1 ?side2 A51.out).mono ?_
                   (case side1 => repeat (first | exact (Kd.zax HR0.out HB.out) | (with_reducible refine Kd.zbs ?_ _) | (with_reducible refine Kd.zbz ?_ _) | (with_reducible refine Kd.zbZ ?_)))
                   (case side2 => exact HC0.out)
                   rintro e w59 ⟨rfl, hb⟩
                   have HS4_ := (hb.cell (World.block_lt_of_cell? _ _ (hHeld.2.2.2.2.1))).trans (hHeld.2.2.2.2.1)
                   have HS5_ := (hb.cell (World.block_lt_of_cell? _ _ (hHeld.2.2.2.2.2))).trans (hHeld.2.2.2.2.2)
                   refine ⟨_, rfl, ?_⟩
                   have n0_ := zaa.mk (Kd.zaT (by (with_reducible repeat (first | apply Kd.zaz | apply Kd.zaG | apply Kd.zaJ)); exact HO_10.out) hb)
                   have n1_ := zaa.mk (zaU (g := gb195) (o := .cells #[.string ((zab l0 t193).f0), .string ((zab l0 t193).f1), .slice A194_2 ((zab l0 t193).f2).length c194_2, .slice A194_3 ((zab l0 t193).f3).length c194_3] 45 (0, 0)) (by (with_reducible repeat (first | refine zaj ?_ _ | refine zan ?_ | refine zak ?_ _)); exact BK195.out) hb)
                   have n2_ := zaa.mk (zaL (by repeat (first | (with_reducible first | exact HB.out | apply zaf | apply zad | apply zae | refine zah ?_ GE195.out) | exact HB.out)) hb)
                   clear HO_10
                   clear BK195
                   clear HB
                   have HO_10 := n0_
                   have BK195 := n1_
                   have HB := n2_
                   clear n0_ n1_ n2_
                   (try clear hb)
                   (try clear hb2)
                   (try clear hk)
                   (try clear hi)
                   refine hK.out _ _ ⟨(zai BK195.out 0).trans rfl, (zai BK195.out 1).trans rfl, (zai BK195.out 2).trans rfl, (zai BK195.out 3).trans rfl, HS4_, HS5_⟩ (fun hHeld => ?_)
                   clear hK K
                   refine norm_ (a' := ?_) ?_ ?_
                   rotate_left
                   ·
                    show Act.put _ (some 132) _ = _
                    simp only [Act.put, List.setIfInBounds_toArray, List.set_cons_zero, List.set_cons_succ, i64_w, i32_w]
                    rfl
                   refine pure_ (i := 9) (N := some 123) (v := ?_) (a' := ?_) #[true, true, true, true, true, true, true, true, true, true, false, false, false, false] rfl rfl (zaB HT_.out k9) (fun _ _ _ h => h) (Or.inl ⟨by rfl, ?_⟩) ?_ ?_
                   rotate_left
                   ·
                    intro w'
                    go_simp
                    with_reducible rfl
                   rotate_left
                   ·
                    simp only [Act.put, List.setIfInBounds_toArray, List.set_cons_zero, List.set_cons_succ, i64_w, i32_w]
                    rfl
                   refine pure_ (i := 10) (N := some 133) (v := ?_) (a' := ?_) #[true, true, true, true, true, true, true, true, true, true, true, false, false, false] rfl rfl (zaB HT_.out k9) (fun _ _ _ h => h) (Or.inl ⟨by rfl, ?_⟩) ?_ ?_
                   rotate_left
                   ·
                    intro w'
                    go_simp
                    with_reducible rfl
                   rotate_left
                   ·
                    simp only [Act.put, List.setIfInBounds_toArray, List.set_cons_zero, List.set_cons_succ, i64_w, i32_w]
                    rfl
                   refine pure_ (i := 11) (N := some 134) (v := ?_) (a' := ?_) #[true, true, true, true, true, true, true, true, true, true, true, true, false, false] rfl rfl (zaB HT_.out k9) (fun _ _ _ h => h) (Or.inl ⟨by rfl, ?_⟩) ?_ ?_
                   rotate_left
                   ·
                    intro w'
                    go_simp
                    with_reducible rfl
                   rotate_left
                   ·
                    simp only [Act.put, List.setIfInBounds_toArray, List.set_cons_zero, List.set_cons_succ, i64_w, i32_w]
                    rfl
                   refine pure_ (i := 12) (N := some 12) (v := ?_) (a' := ?_) #[true, true, true, true, true, true, true, true, true, true, true, true, true, false] rfl rfl (zaB HT_.out k9) (fun _ _ _ h => h) (Or.inl ⟨by rfl, ?_⟩) ?_ ?_
                   rotate_left
                   ·
                    intro w'
                    go_simp
                    with_reducible rfl
                   rotate_left
                   ·
                    simp only [Act.put, List.setIfInBounds_toArray, List.set_cons_zero, List.set_cons_succ, i64_w, i32_w]
                    rfl
                   refine pure_ (i := 13) (N := some 13) (v := ?_) (a' := ?_) #[true, true, true, true, true, true, true, true, true, true, true, true, true, true] rfl rfl (zaB HT_.out k9) (fun _ _ _ h => h) (Or.inl ⟨by rfl, ?_⟩) ?_ ?_
                   rotate_left
                   ·
                    intro w'
                    go_simp
                    with_reducible rfl
                   rotate_left
                   ·
                    simp only [Act.put, List.setIfInBounds_toArray, List.set_cons_zero, List.set_cons_succ, i64_w, i32_w]
                    rfl
                   refine done_ (zcY HT_.out k9) ?_
                   try go_wp2
                   have n0_ := zaa.mk (Kd.zaJ HO_10.out)
                   have n1_ := zaa.mk (zan BK195.out)
                   have n2_ := zaa.mk (zae HB.out)
                   clear HO_10
                   clear BK195
                   clear HB
                   have HO_10 := n0_
                   have BK195 := n1_
                   have HB := n2_
                   clear n0_ n1_ n2_
                   have p210 : 0 ≤ (x11_4 : Int) := of_decide_eq_true (by first | (with_reducible assumption) | assumption)
                   have q210 : x11_4 < (t204.length : Int) := of_decide_eq_true (by first | (with_reducible assumption) | assumption)
                   obtain ⟨ad210, e210, hx210_0, hx210_1⟩ := zcS (Kd.zbb HO_10.out).2.2 x11_4 p210 q210
                   obtain rfl : ad207 = ad210 := (by injection e210)
                   replace p210 := eq_true p210
                   replace q210 := eq_true q210
                   refine zdZ (n := 14) (S := fun w' => w'.cell? ⟨gb195, 0, none⟩ = some (.string ((zab l0 t193).f0)) ∧ w'.cell? ⟨gb195, 1, none⟩ = some (.string ((zab l0 t193).f1)) ∧ w'.cell? ⟨gb195, 2, none⟩ = some (.slice A194_2 ((zab l0 t193).f2).length c194_2) ∧ w'.cell? ⟨gb195, 3, none⟩ = some (.slice A194_3 ((zab l0 t193).f3).length c194_3) ∧ w'.cell? (ad207.add ((x11_4).toNat * 2)) = some (.string ((zaI t204 x11_4).f0)) ∧ w'.cell? ⟨(ad207.add ((x11_4).toNat * 2)).block, (ad207.add ((x11_4).toNat * 2)).off + 1, none⟩ = some (.int .i64 ((zaI t204 x11_4).f1))) (ds := []) #[false, false, false, false, false, false, false, false, false, false, false, false, false, false] k9 rfl rfl ⟨(zai BK195.out 0).trans rfl, (zai BK195.out 1).trans rfl, (zai BK195.out 2).trans rfl, (zai BK195.out 3).trans rfl, hx210_0, hx210_1⟩ (fun hHeld => ?_); refine zce chaperonlaw05_TableAbove.tab18 chaperonlaw05_TableAbove.bits18 (fun HT_ HW_ => ?_)
                   generalize w59.drew = w60 at HO_10 BK195 HB hx210_0 hx210_1 hHeld ⊢
                   refine pure_ (i := 0) (N := some 136) (v := ?_) (a' := ?_) #[true, false, false, false, false, false, false, false, false, false, false, false, false, false] rfl rfl (zaB HT_.out k9) (fun _ _ _ h => h) (Or.inl ⟨by rfl, ?_⟩) ?_ ?_
                   rotate_left
                   ·
                    intro w'
                    go_simp
                    with_reducible rfl
                   rotate_left
                   ·
                    simp only [Act.put, List.setIfInBounds_toArray, List.set_cons_zero, List.set_cons_succ, i64_w, i32_w]
                    rfl
                   refine pure_ (i := 1) (N := some 137) (v := ?_) (a' := ?_) #[true, true, false, false, false, false, false, false, false, false, false, false, false, false] rfl rfl (zaB HT_.out k9) (fun _ _ _ h => h) (Or.inl ⟨by rfl, ?_⟩) ?_ ?_
                   rotate_left
                   ·
                    intro w'
                    go_simp
                    with_reducible rfl
                   rotate_left
                   ·
                    simp only [Act.put, List.setIfInBounds_toArray, List.set_cons_zero, List.set_cons_succ, i64_w, i32_w]
                    rfl
                   refine pure_ (i := 3) (N := some 139) (v := ?_) (a' := ?_) #[true, true, false, true, false, false, false, false, false, false, false, false, false, false] rfl rfl (zaB HT_.out k9) (fun _ _ _ h => h) (Or.inl ⟨by rfl, ?_⟩) ?_ ?_
                   rotate_left
                   ·
                    intro w'
                    go_simp
                    with_reducible rfl
                   rotate_left
                   ·
                    simp only [Act.put, List.setIfInBounds_toArray, List.set_cons_zero, List.set_cons_succ, i64_w, i32_w]
                    rfl
                   refine pure_ (i := 4) (N := some 140) (v := ?_) (a' := ?_) #[true, true, false, true, true, false, false, false, false, false, false, false, false, false] rfl rfl (zaB HT_.out k9) (fun _ _ _ h => h) (Or.inl ⟨by rfl, ?_⟩) ?_ ?_
                   rotate_left
                   ·
                    intro w'
                    go_simp
                    with_reducible rfl
                   rotate_left
                   ·
                    simp only [Act.put, List.setIfInBounds_toArray, List.set_cons_zero, List.set_cons_succ, i64_w, i32_w]
                    rfl
                   refine pure_ (i := 5) (N := some 141) (v := ?_) (a' := ?_) #[true, true, false, true, true, true, false, false, false, false, false, false, false, false] rfl rfl (zaB HT_.out k9) (fun _ _ _ h => h) (Or.inl ⟨by rfl, ?_⟩) ?_ ?_
                   rotate_left
                   ·
                    intro w'
                    go_simp
                    with_reducible rfl
                   rotate_left
                   ·
                    simp only [Act.put, List.setIfInBounds_toArray, List.set_cons_zero, List.set_cons_succ, i64_w, i32_w]
                    rfl
                   refine pure_ (i := 6) (N := some 142) (v := ?_) (a' := ?_) #[true, true, false, true, true, true, true, false, false, false, false, false, false, false] rfl rfl (zaB HT_.out k9) (fun _ _ _ h => h) (Or.inl ⟨by rfl, ?_⟩) ?_ ?_
                   rotate_left
                   ·
                    intro w'
                    go_simp
                    with_reducible rfl
                   rotate_left
                   ·
                    simp only [Act.put, List.setIfInBounds_toArray, List.set_cons_zero, List.set_cons_succ, i64_w, i32_w]
                    rfl
                   refine take_ (i := 2) (N := some 138) (v := ?_) (a' := ?_) #[true, true, true, true, true, true, true, false, false, false, false, false, false, false] rfl rfl (zbp HT_.out HW_.out k9) (fun _ _ _ h => h) (Or.inl ⟨by rfl, ?_⟩) hHeld ?_ ?_
                   rotate_left
                   ·
                    rintro w' ⟨s0, s1, s2, s3, s4, s5⟩
                    go_simp
                    with_reducible rfl
                   rotate_left
                   ·
                    simp only [Act.put, List.setIfInBounds_toArray, List.set_cons_zero, List.set_cons_succ, i64_w, i32_w]
                    rfl
                   refine take_ (i := 7) (N := some 143) (v := ?_) (a' := ?_) #[true, true, true, true, true, true, true, true, false, false, false, false, false, false] rfl rfl (zbp HT_.out HW_.out k9) (fun _ _ _ h => h) (Or.inl ⟨by rfl, ?_⟩) hHeld ?_ ?_
                   rotate_left
                   ·
                    rintro w' ⟨s0, s1, s2, s3, s4, s5⟩
                    go_simp
                    with_reducible rfl
                   rotate_left
                   ·
                    simp only [Act.put, List.setIfInBounds_toArray, List.set_cons_zero, List.set_cons_succ, i64_w, i32_w]
                    rfl
                   refine one_ (i := 8) (N := some 144) #[true, true, true, true, true, true, true, true, true, false, false, false, false, false] rfl rfl (zdb HT_.out k9) d9 (fun K hK => ?_)
                   refine goes_ Tryd.func8 k9 rfl #[.slice (some ad194) l0.length c0, .string ((zab l0 t193).f0), .string ((zaI t204 x11_4).f0)] (by rfl) rfl rfl m9 ?_
                   with_reducible refine (za3.calls _ _ l0 ((zab l0 t193).f0) ((zaI t204 x11_4).f0) t211 t212 _ ?side1 ?side2 A52.out).mono ?_
                   (case side1 => repeat (first | exact (Kd.zax HR0.out HB.out) | (with_reducible refine Kd.zbs ?_ _) | (with_reducible refine Kd.zbz ?_ _) | (with_reducible refine Kd.zbZ ?_)))
                   (case side2 => exact HC0.out)
                   rintro e w61 ⟨rfl, hb⟩
                   have HS4_ := (hb.cell (World.block_lt_of_cell? _ _ (hHeld.2.2.2.2.1))).trans (hHeld.2.2.2.2.1)
                   have HS5_ := (hb.cell (World.block_lt_of_cell? _ _ (hHeld.2.2.2.2.2))).trans (hHeld.2.2.2.2.2)
                   refine ⟨_, rfl, ?_⟩
                   have n0_ := zaa.mk (Kd.zaT (by (with_reducible repeat (first | apply Kd.zaz | apply Kd.zaG | apply Kd.zaJ)); exact HO_10.out) hb)
                   have n1_ := zaa.mk (zaU (g := gb195) (o := .cells #[.string ((zab l0 t193).f0), .string ((zab l0 t193).f1), .slice A194_2 ((zab l0 t193).f2).length c194_2, .slice A194_3 ((zab l0 t193).f3).length c194_3] 45 (0, 0)) (by (with_reducible repeat (first | refine zaj ?_ _ | refine zan ?_ | refine zak ?_ _)); exact BK195.out) hb)
                   have n2_ := zaa.mk (zaL (by repeat (first | (with_reducible first | exact HB.out | apply zaf | apply zad | apply zae | refine zah ?_ GE195.out) | exact HB.out)) hb)
                   clear HO_10
                   clear BK195
                   clear HB
                   have HO_10 := n0_
                   have BK195 := n1_
                   have HB := n2_
                   clear n0_ n1_ n2_
                   (try clear hb)
                   (try clear hb2)
                   (try clear hk)
                   (try clear hi)
                   refine hK.out _ _ ⟨(zai BK195.out 0).trans rfl, (zai BK195.out 1).trans rfl, (zai BK195.out 2).trans rfl, (zai BK195.out 3).trans rfl, HS4_, HS5_⟩ (fun hHeld => ?_)
                   clear hK K
                   refine norm_ (a' := ?_) ?_ ?_
                   rotate_left
                   ·
                    show Act.put _ (some 144) _ = _
                    simp only [Act.put, List.setIfInBounds_toArray, List.set_cons_zero, List.set_cons_succ, i64_w, i32_w]
                    rfl
                   refine pure_ (i := 9) (N := some 135) (v := ?_) (a' := ?_) #[true, true, true, true, true, true, true, true, true, true, false, false, false, false] rfl rfl (zaB HT_.out k9) (fun _ _ _ h => h) (Or.inl ⟨by rfl, ?_⟩) ?_ ?_
                   rotate_left
                   ·
                    intro w'
                    go_simp
                    with_reducible rfl
                   rotate_left
                   ·
                    simp only [Act.put, List.setIfInBounds_toArray, List.set_cons_zero, List.set_cons_succ, i64_w, i32_w]
                    rfl
                   refine pure_ (i := 10) (N := some 145) (v := ?_) (a' := ?_) #[true, true, true, true, true, true, true, true, true, true, true, false, false, false] rfl rfl (zaB HT_.out k9) (fun _ _ _ h => h) (Or.inl ⟨by rfl, ?_⟩) ?_ ?_
                   rotate_left
                   ·
                    intro w'
                    go_simp
                    with_reducible rfl
                   rotate_left
                   ·
                    simp only [Act.put, List.setIfInBounds_toArray, List.set_cons_zero, List.set_cons_succ, i64_w, i32_w]
                    rfl
                   refine pure_ (i := 11) (N := some 146) (v := ?_) (a' := ?_) #[true, true, true, true, true, true, true, true, true, true, true, true, false, false] rfl rfl (zaB HT_.out k9) (fun _ _ _ h => h) (Or.inl ⟨by rfl, ?_⟩) ?_ ?_
                   rotate_left
                   ·
                    intro w'
                    go_simp
                    with_reducible rfl
                   rotate_left
                   ·
                    simp only [Act.put, List.setIfInBounds_toArray, List.set_cons_zero, List.set_cons_succ, i64_w, i32_w]
                    rfl
                   refine pure_ (i := 12) (N := some 14) (v := ?_) (a' := ?_) #[true, true, true, true, true, true, true, true, true, true, true, true, true, false] rfl rfl (zaB HT_.out k9) (fun _ _ _ h => h) (Or.inl ⟨by rfl, ?_⟩) ?_ ?_
                   rotate_left
                   ·
                    intro w'
                    go_simp
                    with_reducible rfl
                   rotate_left
                   ·
                    simp only [Act.put, List.setIfInBounds_toArray, List.set_cons_zero, List.set_cons_succ, i64_w, i32_w]
                    rfl
                   refine pure_ (i := 13) (N := some 15) (v := ?_) (a' := ?_) #[true, true, true, true, true, true, true, true, true, true, true, true, true, true] rfl rfl (zaB HT_.out k9) (fun _ _ _ h => h) (Or.inl ⟨by rfl, ?_⟩) ?_ ?_
                   rotate_left
                   ·
                    intro w'
                    go_simp
                    with_reducible rfl
                   rotate_left
                   ·
                    simp only [Act.put, List.setIfInBounds_toArray, List.set_cons_zero, List.set_cons_succ, i64_w, i32_w]
                    rfl
                   refine done_ (zcY HT_.out k9) ?_
                   try go_wp2
                   have n0_ := zaa.mk (Kd.zaJ HO_10.out)
                   have n1_ := zaa.mk (zan BK195.out)
                   have n2_ := zaa.mk (zae HB.out)
                   clear HO_10
                   clear BK195
                   clear HB
                   have HO_10 := n0_
                   have BK195 := n1_
                   have HB := n2_
                   clear n0_ n1_ n2_
                   have p213 : 0 ≤ (x11_4 : Int) := of_decide_eq_true (by first | (with_reducible assumption) | assumption)
                   have q213 : x11_4 < (t204.length : Int) := of_decide_eq_true (by first | (with_reducible assumption) | assumption)
                   obtain ⟨ad213, e213, hx213_0, hx213_1⟩ := zcS (Kd.zbb HO_10.out).2.2 x11_4 p213 q213
                   obtain rfl : ad207 = ad213 := (by injection e213)
                   replace p213 := eq_true p213
                   replace q213 := eq_true q213
                   refine zdZ (n := 14) (S := fun w' => w'.cell? ⟨gb195, 0, none⟩ = some (.string ((zab l0 t193).f0)) ∧ w'.cell? ⟨gb195, 1, none⟩ = some (.string ((zab l0 t193).f1)) ∧ w'.cell? ⟨gb195, 2, none⟩ = some (.slice A194_2 ((zab l0 t193).f2).length c194_2) ∧ w'.cell? ⟨gb195, 3, none⟩ = some (.slice A194_3 ((zab l0 t193).f3).length c194_3) ∧ w'.cell? (ad207.add ((x11_4).toNat * 2)) = some (.string ((zaI t204 x11_4).f0)) ∧ w'.cell? ⟨(ad207.add ((x11_4).toNat * 2)).block, (ad207.add ((x11_4).toNat * 2)).off + 1, none⟩ = some (.int .i64 ((zaI t204 x11_4).f1))) (ds := []) #[false, false, false, false, false, false, false, false, false, false, false, false, false, false] k9 rfl rfl ⟨(zai BK195.out 0).trans rfl, (zai BK195.out 1).trans rfl, (zai BK195.out 2).trans rfl, (zai BK195.out 3).trans rfl, hx213_0, hx213_1⟩ (fun hHeld => ?_); refine zce chaperonlaw05_TableAbove.tab19 chaperonlaw05_TableAbove.bits19 (fun HT_ HW_ => ?_)
                   generalize w61.drew = w62 at HO_10 BK195 HB hx213_0 hx213_1 hHeld ⊢
                   refine pure_ (i := 0) (N := some 148) (v := ?_) (a' := ?_) #[true, false, false, false, false, false, false, false, false, false, false, false, false, false] rfl rfl (zaB HT_.out k9) (fun _ _ _ h => h) (Or.inl ⟨by rfl, ?_⟩) ?_ ?_
                   rotate_left
                   ·
                    intro w'
                    go_simp
                    with_reducible rfl
                   rotate_left
                   ·
                    simp only [Act.put, List.setIfInBounds_toArray, List.set_cons_zero, List.set_cons_succ, i64_w, i32_w]
                    rfl
                   refine pure_ (i := 1) (N := some 149) (v := ?_) (a' := ?_) #[true, true, false, false, false, false, false, false, false, false, false, false, false, false] rfl rfl (zaB HT_.out k9) (fun _ _ _ h => h) (Or.inl ⟨by rfl, ?_⟩) ?_ ?_
                   rotate_left
                   ·
                    intro w'
                    go_simp
                    with_reducible rfl
                   rotate_left
                   ·
                    simp only [Act.put, List.setIfInBounds_toArray, List.set_cons_zero, List.set_cons_succ, i64_w, i32_w]
                    rfl
                   refine pure_ (i := 3) (N := some 151) (v := ?_) (a' := ?_) #[true, true, false, true, false, false, false, false, false, false, false, false, false, false] rfl rfl (zaB HT_.out k9) (fun _ _ _ h => h) (Or.inl ⟨by rfl, ?_⟩) ?_ ?_
                   rotate_left
                   ·
                    intro w'
                    go_simp
                    with_reducible rfl
                   rotate_left
                   ·
                    simp only [Act.put, List.setIfInBounds_toArray, List.set_cons_zero, List.set_cons_succ, i64_w, i32_w]
                    rfl
                   refine pure_ (i := 4) (N := some 152) (v := ?_) (a' := ?_) #[true, true, false, true, true, false, false, false, false, false, false, false, false, false] rfl rfl (zaB HT_.out k9) (fun _ _ _ h => h) (Or.inl ⟨by rfl, ?_⟩) ?_ ?_
                   rotate_left
                   ·
                    intro w'
                    go_simp
                    with_reducible rfl
                   rotate_left
                   ·
                    simp only [Act.put, List.setIfInBounds_toArray, List.set_cons_zero, List.set_cons_succ, i64_w, i32_w]
                    rfl
                   refine pure_ (i := 5) (N := some 153) (v := ?_) (a' := ?_) #[true, true, false, true, true, true, false, false, false, false, false, false, false, false] rfl rfl (zaB HT_.out k9) (fun _ _ _ h => h) (Or.inl ⟨by rfl, ?_⟩) ?_ ?_
                   rotate_left
                   ·
                    intro w'
                    go_simp
                    with_reducible rfl
                   rotate_left
                   ·
                    simp only [Act.put, List.setIfInBounds_toArray, List.set_cons_zero, List.set_cons_succ, i64_w, i32_w]
                    rfl
                   refine pure_ (i := 6) (N := some 154) (v := ?_) (a' := ?_) #[true, true, false, true, true, true, true, false, false, false, false, false, false, false] rfl rfl (zaB HT_.out k9) (fun _ _ _ h => h) (Or.inl ⟨by rfl, ?_⟩) ?_ ?_
                   rotate_left
                   ·
                    intro w'
                    go_simp
                    with_reducible rfl
                   rotate_left
                   ·
                    simp only [Act.put, List.setIfInBounds_toArray, List.set_cons_zero, List.set_cons_succ, i64_w, i32_w]
                    rfl
                   refine take_ (i := 2) (N := some 150) (v := ?_) (a' := ?_) #[true, true, true, true, true, true, true, false, false, false, false, false, false, false] rfl rfl (zbp HT_.out HW_.out k9) (fun _ _ _ h => h) (Or.inl ⟨by rfl, ?_⟩) hHeld ?_ ?_
                   rotate_left
                   ·
                    rintro w' ⟨s0, s1, s2, s3, s4, s5⟩
                    go_simp
                    with_reducible rfl
                   rotate_left
                   ·
                    simp only [Act.put, List.setIfInBounds_toArray, List.set_cons_zero, List.set_cons_succ, i64_w, i32_w]
                    rfl
                   refine take_ (i := 7) (N := some 155) (v := ?_) (a' := ?_) #[true, true, true, true, true, true, true, true, false, false, false, false, false, false] rfl rfl (zbp HT_.out HW_.out k9) (fun _ _ _ h => h) (Or.inl ⟨by rfl, ?_⟩) hHeld ?_ ?_
                   rotate_left
                   ·
                    rintro w' ⟨s0, s1, s2, s3, s4, s5⟩
                    go_simp
                    with_reducible rfl
                   rotate_left
                   ·
                    simp only [Act.put, List.setIfInBounds_toArray, List.set_cons_zero, List.set_cons_succ, i64_w, i32_w]
                    rfl
                   refine one_ (i := 8) (N := some 156) #[true, true, true, true, true, true, true, true, true, false, false, false, false, false] rfl rfl (zdb HT_.out k9) d9 (fun K hK => ?_)
                   refine goes_ Tryd.func8 k9 rfl #[.slice (some ad194) l0.length c0, .string ((zab l0 t193).f1), .string ((zaI t204 x11_4).f0)] (by rfl) rfl rfl m9 ?_
                   with_reducible refine (za3.calls _ _ l0 ((zab l0 t193).f1) ((zaI t204 x11_4).f0) t214 t215 _ ?side1 ?side2 A53.out).mono ?_
                   (case side1 => repeat (first | exact (Kd.zax HR0.out HB.out) | (with_reducible refine Kd.zbs ?_ _) | (with_reducible refine Kd.zbz ?_ _) | (with_reducible refine Kd.zbZ ?_)))
                   (case side2 => exact HC0.out)
                   rintro e w63 ⟨rfl, hb⟩
                   have HS4_ := (hb.cell (World.block_lt_of_cell? _ _ (hHeld.2.2.2.2.1))).trans (hHeld.2.2.2.2.1)
                   have HS5_ := (hb.cell (World.block_lt_of_cell? _ _ (hHeld.2.2.2.2.2))).trans (hHeld.2.2.2.2.2)
                   refine ⟨_, rfl, ?_⟩
                   have n0_ := zaa.mk (Kd.zaT (by (with_reducible repeat (first | apply Kd.zaz | apply Kd.zaG | apply Kd.zaJ)); exact HO_10.out) hb)
                   have n1_ := zaa.mk (zaU (g := gb195) (o := .cells #[.string ((zab l0 t193).f0), .string ((zab l0 t193).f1), .slice A194_2 ((zab l0 t193).f2).length c194_2, .slice A194_3 ((zab l0 t193).f3).length c194_3] 45 (0, 0)) (by (with_reducible repeat (first | refine zaj ?_ _ | refine zan ?_ | refine zak ?_ _)); exact BK195.out) hb)
                   have n2_ := zaa.mk (zaL (by repeat (first | (with_reducible first | exact HB.out | apply zaf | apply zad | apply zae | refine zah ?_ GE195.out) | exact HB.out)) hb)
                   clear HO_10
                   clear BK195
                   clear HB
                   have HO_10 := n0_
                   have BK195 := n1_
                   have HB := n2_
                   clear n0_ n1_ n2_
                   (try clear hb)
                   (try clear hb2)
                   (try clear hk)
                   (try clear hi)
                   refine hK.out _ _ ⟨(zai BK195.out 0).trans rfl, (zai BK195.out 1).trans rfl, (zai BK195.out 2).trans rfl, (zai BK195.out 3).trans rfl, HS4_, HS5_⟩ (fun hHeld => ?_)
                   clear hK K
                   refine norm_ (a' := ?_) ?_ ?_
                   rotate_left
                   ·
                    show Act.put _ (some 156) _ = _
                    simp only [Act.put, List.setIfInBounds_toArray, List.set_cons_zero, List.set_cons_succ, i64_w, i32_w]
                    rfl
                   refine pure_ (i := 9) (N := some 147) (v := ?_) (a' := ?_) #[true, true, true, true, true, true, true, true, true, true, false, false, false, false] rfl rfl (zaB HT_.out k9) (fun _ _ _ h => h) (Or.inl ⟨by rfl, ?_⟩) ?_ ?_
                   rotate_left
                   ·
                    intro w'
                    go_simp
                    with_reducible rfl
                   rotate_left
                   ·
                    simp only [Act.put, List.setIfInBounds_toArray, List.set_cons_zero, List.set_cons_succ, i64_w, i32_w]
                    rfl
                   refine pure_ (i := 10) (N := some 157) (v := ?_) (a' := ?_) #[true, true, true, true, true, true, true, true, true, true, true, false, false, false] rfl rfl (zaB HT_.out k9) (fun _ _ _ h => h) (Or.inl ⟨by rfl, ?_⟩) ?_ ?_
                   rotate_left
                   ·
                    intro w'
                    go_simp
                    with_reducible rfl
                   rotate_left
                   ·
                    simp only [Act.put, List.setIfInBounds_toArray, List.set_cons_zero, List.set_cons_succ, i64_w, i32_w]
                    rfl
                   refine pure_ (i := 11) (N := some 158) (v := ?_) (a' := ?_) #[true, true, true, true, true, true, true, true, true, true, true, true, false, false] rfl rfl (zaB HT_.out k9) (fun _ _ _ h => h) (Or.inl ⟨by rfl, ?_⟩) ?_ ?_
                   rotate_left
                   ·
                    intro w'
                    go_simp
                    with_reducible rfl
                   rotate_left
                   ·
                    simp only [Act.put, List.setIfInBounds_toArray, List.set_cons_zero, List.set_cons_succ, i64_w, i32_w]
                    rfl
                   refine pure_ (i := 12) (N := some 16) (v := ?_) (a' := ?_) #[true, true, true, true, true, true, true, true, true, true, true, true, true, false] rfl rfl (zaB HT_.out k9) (fun _ _ _ h => h) (Or.inl ⟨by rfl, ?_⟩) ?_ ?_
                   rotate_left
                   ·
                    intro w'
                    go_simp
                    with_reducible rfl
                   rotate_left
                   ·
                    simp only [Act.put, List.setIfInBounds_toArray, List.set_cons_zero, List.set_cons_succ, i64_w, i32_w]
                    rfl
                   refine pure_ (i := 13) (N := some 17) (v := ?_) (a' := ?_) #[true, true, true, true, true, true, true, true, true, true, true, true, true, true] rfl rfl (zaB HT_.out k9) (fun _ _ _ h => h) (Or.inl ⟨by rfl, ?_⟩) ?_ ?_
                   rotate_left
                   ·
                    intro w'
                    go_simp
                    with_reducible rfl
                   rotate_left
                   ·
                    simp only [Act.put, List.setIfInBounds_toArray, List.set_cons_zero, List.set_cons_succ, i64_w, i32_w]
                    rfl
                   refine done_ (zcY HT_.out k9) ?_
                   try go_wp2
                   have n0_ := zaa.mk (Kd.zaJ HO_10.out)
                   have n1_ := zaa.mk (zan BK195.out)
                   have n2_ := zaa.mk (zae HB.out)
                   clear HO_10
                   clear BK195
                   clear HB
                   have HO_10 := n0_
                   have BK195 := n1_
                   have HB := n2_
                   clear n0_ n1_ n2_
                   have p216 : 0 ≤ (x11_4 : Int) := of_decide_eq_true (by first | (with_reducible assumption) | assumption)
                   have q216 : x11_4 < (t204.length : Int) := of_decide_eq_true (by first | (with_reducible assumption) | assumption)
                   obtain ⟨ad216, e216, hx216_0, hx216_1⟩ := zcS (Kd.zbb HO_10.out).2.2 x11_4 p216 q216
                   obtain rfl : ad207 = ad216 := (by injection e216)
                   replace p216 := eq_true p216
                   replace q216 := eq_true q216
                   refine zdZ (n := 17) (S := fun w' => w'.cell? ⟨gb195, 0, none⟩ = some (.string ((zab l0 t193).f0)) ∧ w'.cell? ⟨gb195, 1, none⟩ = some (.string ((zab l0 t193).f1)) ∧ w'.cell? ⟨gb195, 2, none⟩ = some (.slice A194_2 ((zab l0 t193).f2).length c194_2) ∧ w'.cell? ⟨gb195, 3, none⟩ = some (.slice A194_3 ((zab l0 t193).f3).length c194_3) ∧ w'.cell? (ad207.add ((x11_4).toNat * 2)) = some (.string ((zaI t204 x11_4).f0)) ∧ w'.cell? ⟨(ad207.add ((x11_4).toNat * 2)).block, (ad207.add ((x11_4).toNat * 2)).off + 1, none⟩ = some (.int .i64 ((zaI t204 x11_4).f1))) (ds := []) #[false, false, false, false, false, false, false, false, false, false, false, false, false, false, false, false, false] k9 rfl rfl ⟨(zai BK195.out 0).trans rfl, (zai BK195.out 1).trans rfl, (zai BK195.out 2).trans rfl, (zai BK195.out 3).trans rfl, hx216_0, hx216_1⟩ (fun hHeld => ?_); refine zce chaperonlaw05_TableAbove.tab20 chaperonlaw05_TableAbove.bits20 (fun HT_ HW_ => ?_)
                   generalize w63.drew = w64 at HO_10 BK195 HB hx216_0 hx216_1 hHeld ⊢
                   refine pure_ (i := 0) (N := some 160) (v := ?_) (a' := ?_) #[true, false, false, false, false, false, false, false, false, false, false, false, false, false, false, false, false] rfl rfl (zaB HT_.out k9) (fun _ _ _ h => h) (Or.inl ⟨by rfl, ?_⟩) ?_ ?_
                   rotate_left
                   ·
                    intro w'
                    go_simp
                    with_reducible rfl
                   rotate_left
                   ·
                    simp only [Act.put, List.setIfInBounds_toArray, List.set_cons_zero, List.set_cons_succ, i64_w, i32_w]
                    rfl
                   refine pure_ (i := 1) (N := some 161) (v := ?_) (a' := ?_) #[true, true, false, false, false, false, false, false, false, false, false, false, false, false, false, false, false] rfl rfl (zaB HT_.out k9) (fun _ _ _ h => h) (Or.inl ⟨by rfl, ?_⟩) ?_ ?_
                   rotate_left
                   ·
                    intro w'
                    go_simp
                    with_reducible rfl
                   rotate_left
                   ·
                    simp only [Act.put, List.setIfInBounds_toArray, List.set_cons_zero, List.set_cons_succ, i64_w, i32_w]
                    rfl
                   refine pure_ (i := 3) (N := some 163) (v := ?_) (a' := ?_) #[true, true, false, true, false, false, false, false, false, false, false, false, false, false, false, false, false] rfl rfl (zaB HT_.out k9) (fun _ _ _ h => h) (Or.inl ⟨by rfl, ?_⟩) ?_ ?_
                   rotate_left
                   ·
                    intro w'
                    go_simp
                    with_reducible rfl
                   rotate_left
                   ·
                    simp only [Act.put, List.setIfInBounds_toArray, List.set_cons_zero, List.set_cons_succ, i64_w, i32_w]
                    rfl
                   refine pure_ (i := 4) (N := some 164) (v := ?_) (a' := ?_) #[true, true, false, true, true, false, false, false, false, false, false, false, false, false, false, false, false] rfl rfl (zaB HT_.out k9) (fun _ _ _ h => h) (Or.inl ⟨by rfl, ?_⟩) ?_ ?_
                   rotate_left
                   ·
                    intro w'
                    go_simp
                    with_reducible rfl
                   rotate_left
                   ·
                    simp only [Act.put, List.setIfInBounds_toArray, List.set_cons_zero, List.set_cons_succ, i64_w, i32_w]
                    rfl
                   refine pure_ (i := 5) (N := some 165) (v := ?_) (a' := ?_) #[true, true, false, true, true, true, false, false, false, false, false, false, false, false, false, false, false] rfl rfl (zaB HT_.out k9) (fun _ _ _ h => h) (Or.inl ⟨by rfl, ?_⟩) ?_ ?_
                   rotate_left
                   ·
                    intro w'
                    go_simp
                    with_reducible rfl
                   rotate_left
                   ·
                    simp only [Act.put, List.setIfInBounds_toArray, List.set_cons_zero, List.set_cons_succ, i64_w, i32_w]
                    rfl
                   refine pure_ (i := 6) (N := some 166) (v := ?_) (a' := ?_) #[true, true, false, true, true, true, true, false, false, false, false, false, false, false, false, false, false] rfl rfl (zaB HT_.out k9) (fun _ _ _ h => h) (Or.inl ⟨by rfl, ?_⟩) ?_ ?_
                   rotate_left
                   ·
                    intro w'
                    go_simp
                    with_reducible rfl
                   rotate_left
                   ·
                    simp only [Act.put, List.setIfInBounds_toArray, List.set_cons_zero, List.set_cons_succ, i64_w, i32_w]
                    rfl
                   refine take_ (i := 2) (N := some 162) (v := ?_) (a' := ?_) #[true, true, true, true, true, true, true, false, false, false, false, false, false, false, false, false, false] rfl rfl (zbp HT_.out HW_.out k9) (fun _ _ _ h => h) (Or.inl ⟨by rfl, ?_⟩) hHeld ?_ ?_
                   rotate_left
                   ·
                    rintro w' ⟨s0, s1, s2, s3, s4, s5⟩
                    go_simp
                    with_reducible rfl
                   rotate_left
                   ·
                    simp only [Act.put, List.setIfInBounds_toArray, List.set_cons_zero, List.set_cons_succ, i64_w, i32_w]
                    rfl
                   refine take_ (i := 7) (N := some 167) (v := ?_) (a' := ?_) #[true, true, true, true, true, true, true, true, false, false, false, false, false, false, false, false, false] rfl rfl (zbp HT_.out HW_.out k9) (fun _ _ _ h => h) (Or.inl ⟨by rfl, ?_⟩) hHeld ?_ ?_
                   rotate_left
                   ·
                    rintro w' ⟨s0, s1, s2, s3, s4, s5⟩
                    go_simp
                    with_reducible rfl
                   rotate_left
                   ·
                    simp only [Act.put, List.setIfInBounds_toArray, List.set_cons_zero, List.set_cons_succ, i64_w, i32_w]
                    rfl
                   refine join_ (σ := Value × Nat) 3 #[true, true, true, true, true, true, true, true, true, true, true, true, true, true, false, false, false] (fun s_ => [(168, .tuple #[.agg #[.string t217, s_.1, .string t221], .string t222, .bool t223]), (18, .pointer (some ⟨s_.2, 0, none⟩)), (159, .tuple #[.agg #[.string t217, s_.1, .string t221], .string t222, .bool t223]), (169, .agg #[.string t217, s_.1, .string t221]), (170, .string t222), (171, .bool t223)]) (fun s_ w' => (w'.cell? ⟨gb195, 0, none⟩ = some (.string ((zab l0 t193).f0)) ∧ w'.cell? ⟨gb195, 1, none⟩ = some (.string ((zab l0 t193).f1)) ∧ w'.cell? ⟨gb195, 2, none⟩ = some (.slice A194_2 ((zab l0 t193).f2).length c194_2) ∧ w'.cell? ⟨gb195, 3, none⟩ = some (.slice A194_3 ((zab l0 t193).f3).length c194_3) ∧ w'.cell? (ad207.add ((x11_4).toNat * 2)) = some (.string ((zaI t204 x11_4).f0)) ∧ w'.cell? ⟨(ad207.add ((x11_4).toNat * 2)).block, (ad207.add ((x11_4).toNat * 2)).off + 1, none⟩ = some (.int .i64 ((zaI t204 x11_4).f1))) ∧ (Kd.R k35 35 w' w.heap.size (fun _ => True) s_.1 t218) ∧ (Kd.R k42 42 w' w.heap.size (fun _ => True) (.slice (some ad207) t204.length co57) t204) ∧ (w'.heap[gb195]? = some (.cells #[.string ((zab l0 t193).f0), .string ((zab l0 t193).f1), .slice A194_2 ((zab l0 t193).f2).length c194_2, .slice A194_3 ((zab l0 t193).f3).length c194_3] 45 (0, 0))) ∧ (w'.heap[s_.2]? = some (.cells #[.string (⟨#[]⟩ : ByteArray), .slice none 0 0, .string (⟨#[]⟩ : ByteArray)] 26 (0, 0))) ∧ (w.heap.size ≤ s_.2) ∧ (w.heap.size ≤ s_.2) ∧ (gb195 ≠ s_.2) ∧ (s_.2 ≠ gb195) ∧ (Below w.heap.size w w')) ?_ ?_
                   rotate_left
                   ·
                    intro hCont
                    refine two_ (i := 8) (j := 13) (Ni := some 168) (Nj := some 18) #[true, true, true, true, true, true, true, true, true, false, false, false, false, false, false, false, false] #[true, true, true, true, true, true, true, true, false, false, false, false, false, true, false, false, false] rfl rfl rfl rfl (zhW HT_.out k9) d9 d9 (fun K hK => ?_) (fun K hK => ?_)
                    ·
                     skip
                     refine goes_ Tryd.func7 k9 rfl #[.slice (some ad194) l0.length c0, .string ((zab l0 t193).f0), .string ((zaI t204 x11_4).f0)] (by rfl) rfl rfl m9 ?_
                     with_reducible refine (zaS.calls _ _ l0 ((zab l0 t193).f0) ((zaI t204 x11_4).f0) t217 t218 t221 t222 t223 _ ?side1 ?side2 A54.out).mono ?_
                     (case side1 => repeat (first | exact (Kd.zax HR0.out HB.out) | (with_reducible refine Kd.zbs ?_ _) | (with_reducible refine Kd.zbz ?_ _) | (with_reducible refine Kd.zbZ ?_)))
                     (case side2 => exact HC0.out)
                     rintro e w65 ⟨v219, rfl, ho0, hb⟩
                     have HS4_ := (hb.cell (World.block_lt_of_cell? _ _ (hHeld.2.2.2.2.1))).trans (hHeld.2.2.2.2.1)
                     have HS5_ := (hb.cell (World.block_lt_of_cell? _ _ (hHeld.2.2.2.2.2))).trans (hHeld.2.2.2.2.2)
                     refine ⟨_, rfl, ?_⟩
                     have n0_ := zaa.mk (Kd.zaT (by (with_reducible repeat (first | apply Kd.zaz | apply Kd.zaG | apply Kd.zaJ)); exact HO_10.out) hb)
                     have n1_ := zaa.mk (Kd.zbJ ho0 (zaD (by repeat (first | (with_reducible first | exact HB.out | apply zaf | apply zad | apply zae | refine zah ?_ GE195.out) | exact HB.out))))
                     have n2_ := zaa.mk (zaU (g := gb195) (o := .cells #[.string ((zab l0 t193).f0), .string ((zab l0 t193).f1), .slice A194_2 ((zab l0 t193).f2).length c194_2, .slice A194_3 ((zab l0 t193).f3).length c194_3] 45 (0, 0)) (by (with_reducible repeat (first | refine zaj ?_ _ | refine zan ?_ | refine zak ?_ _)); exact BK195.out) hb)
                     have n3_ := zaa.mk (zaL (by repeat (first | (with_reducible first | exact HB.out | apply zaf | apply zad | apply zae | refine zah ?_ GE195.out) | exact HB.out)) hb)
                     clear HO_10
                     clear BK195
                     clear HB
                     have HO_10 := n0_
                     have HO220 := n1_
                     have BK195 := n2_
                     have HB := n3_
                     clear n0_ n1_ n2_ n3_
                     (try clear hb)
                     (try clear hb2)
                     (try clear hk)
                     (try clear hi)
                     (try clear ho0)
                     refine hK.out _ _ ⟨(zai BK195.out 0).trans rfl, (zai BK195.out 1).trans rfl, (zai BK195.out 2).trans rfl, (zai BK195.out 3).trans rfl, HS4_, HS5_⟩ (fun hHeld => ?_)
                     clear hK K
                     refine norm_ (a' := ?_) ?_ ?_
                     rotate_left
                     ·
                      show Act.put _ (some 168) _ = _
                      simp only [Act.put, List.setIfInBounds_toArray, List.set_cons_zero, List.set_cons_succ, i64_w, i32_w]
                      rfl
                     refine pure_ (i := 9) (N := some 159) (v := ?_) (a' := ?_) #[true, true, true, true, true, true, true, true, true, true, false, false, false, false, false, false, false] rfl rfl (zaB HT_.out k9) (fun _ _ _ h => h) (Or.inl ⟨by rfl, ?_⟩) ?_ ?_
                     rotate_left
                     ·
                      intro w'
                      go_simp
                      with_reducible rfl
                     rotate_left
                     ·
                      simp only [Act.put, List.setIfInBounds_toArray, List.set_cons_zero, List.set_cons_succ, i64_w, i32_w]
                      rfl
                     refine pure_ (i := 10) (N := some 169) (v := ?_) (a' := ?_) #[true, true, true, true, true, true, true, true, true, true, true, false, false, false, false, false, false] rfl rfl (zaB HT_.out k9) (fun _ _ _ h => h) (Or.inl ⟨by rfl, ?_⟩) ?_ ?_
                     rotate_left
                     ·
                      intro w'
                      go_simp
                      with_reducible rfl
                     rotate_left
                     ·
                      simp only [Act.put, List.setIfInBounds_toArray, List.set_cons_zero, List.set_cons_succ, i64_w, i32_w]
                      rfl
                     refine pure_ (i := 11) (N := some 170) (v := ?_) (a' := ?_) #[true, true, true, true, true, true, true, true, true, true, true, true, false, false, false, false, false] rfl rfl (zaB HT_.out k9) (fun _ _ _ h => h) (Or.inl ⟨by rfl, ?_⟩) ?_ ?_
                     rotate_left
                     ·
                      intro w'
                      go_simp
                      with_reducible rfl
                     rotate_left
                     ·
                      simp only [Act.put, List.setIfInBounds_toArray, List.set_cons_zero, List.set_cons_succ, i64_w, i32_w]
                      rfl
                     refine pure_ (i := 12) (N := some 171) (v := ?_) (a' := ?_) #[true, true, true, true, true, true, true, true, true, true, true, true, true, false, false, false, false] rfl rfl (zaB HT_.out k9) (fun _ _ _ h => h) (Or.inl ⟨by rfl, ?_⟩) ?_ ?_
                     rotate_left
                     ·
                      intro w'
                      go_simp
                      with_reducible rfl
                     rotate_left
                     ·
                      simp only [Act.put, List.setIfInBounds_toArray, List.set_cons_zero, List.set_cons_succ, i64_w, i32_w]
                      rfl
                     refine one_ (i := 13) (N := some 18) #[true, true, true, true, true, true, true, true, true, true, true, true, true, true, false, false, false] rfl rfl (zdb HT_.out k9) d9 (fun K hK => ?_)
                     refine zdA ?hg (N := 18) ?hd (cs := #[.string (⟨#[]⟩ : ByteArray), .slice none 0 0, .string (⟨#[]⟩ : ByteArray)]) (t := 26) ?hr ?_; (case hd => rfl); (case hg => rfl); (case hr => first | (go_simp; done) | (go_simp; rfl))
                     intro gb224 hg w66 hbox hb
                     have HS4_ := (hb.cell (World.block_lt_of_cell? _ _ (hHeld.2.2.2.2.1))).trans (hHeld.2.2.2.2.1)
                     have HS5_ := (hb.cell (World.block_lt_of_cell? _ _ (hHeld.2.2.2.2.2))).trans (hHeld.2.2.2.2.2)
                     have n0_ := zaa.mk (Kd.zaT (by (with_reducible repeat (first | apply Kd.zaz | apply Kd.zaG | apply Kd.zaJ)); exact HO_10.out) hb)
                     have n1_ := zaa.mk (Kd.zaT (by (with_reducible repeat (first | apply Kd.zaz | apply Kd.zaG | apply Kd.zaJ)); exact HO220.out) hb)
                     have n2_ := zaa.mk (zaU (g := gb195) (o := .cells #[.string ((zab l0 t193).f0), .string ((zab l0 t193).f1), .slice A194_2 ((zab l0 t193).f2).length c194_2, .slice A194_3 ((zab l0 t193).f3).length c194_3] 45 (0, 0)) (by (with_reducible repeat (first | refine zaj ?_ _ | refine zan ?_ | refine zak ?_ _)); exact BK195.out) hb)
                     have n3_ := zaa.mk (zaL (by repeat (first | (with_reducible first | exact HB.out | apply zaf | apply zad | apply zae | refine zah ?_ GE195.out) | exact HB.out)) hb)
                     have n4_ := zaa.mk (hbox)
                     have n5_ := zaa.mk ((by rw [hg]; exact (zaD (by repeat (first | (with_reducible first | exact HB.out | apply zaf | apply zad | apply zae | refine zah ?_ GE195.out) | exact HB.out))) : w.heap.size ≤ gb224))
                     have n6_ := zaa.mk ((by rw [hg]; exact (zaD (by repeat (first | (with_reducible first | exact HB.out | apply zaf | apply zad | apply zae | refine zah ?_ GE195.out) | exact HB.out))) : w.heap.size ≤ gb224))
                     have n7_ := zaa.mk ((by rw [hg]; exact Nat.ne_of_lt (zbu (g := gb195) (o := .cells #[.string ((zab l0 t193).f0), .string ((zab l0 t193).f1), .slice A194_2 ((zab l0 t193).f2).length c194_2, .slice A194_3 ((zab l0 t193).f3).length c194_3] 45 (0, 0)) (by (with_reducible repeat (first | refine zaj ?_ _ | refine zan ?_ | refine zak ?_ _)); exact BK195.out)) : gb195 ≠ gb224))
                     have n8_ := zaa.mk ((by rw [hg]; exact Nat.ne_of_gt (zbu (g := gb195) (o := .cells #[.string ((zab l0 t193).f0), .string ((zab l0 t193).f1), .slice A194_2 ((zab l0 t193).f2).length c194_2, .slice A194_3 ((zab l0 t193).f3).length c194_3] 45 (0, 0)) (by (with_reducible repeat (first | refine zaj ?_ _ | refine zan ?_ | refine zak ?_ _)); exact BK195.out)) : gb224 ≠ gb195))
                     clear HO_10
                     clear HO220
                     clear BK195
                     clear HB
                     have HO_10 := n0_
                     have HO220 := n1_
                     have BK195 := n2_
                     have HB := n3_
                     have BK224 := n4_
                     have GW224 := n5_
                     have GE224 := n6_
                     have NB195_224 := n7_
                     have NB224_195 := n8_
                     clear n0_ n1_ n2_ n3_ n4_ n5_ n6_ n7_ n8_
                     clear hb hbox hg
                     refine hK.out _ _ ⟨(zai BK195.out 0).trans rfl, (zai BK195.out 1).trans rfl, (zai BK195.out 2).trans rfl, (zai BK195.out 3).trans rfl, HS4_, HS5_⟩ (fun hHeld => ?_)
                     clear hK K
                     refine norm_ (a' := ?_) ?_ ?_
                     rotate_left
                     ·
                      show Act.put _ (some 18) _ = _
                      simp only [Act.put, List.setIfInBounds_toArray, List.set_cons_zero, List.set_cons_succ, i64_w, i32_w]
                      rfl
                     exact norm_ (by simp only [zda, Act.put, List.setIfInBounds_toArray, List.set_cons_zero, List.set_cons_succ]) (hCont (v219, gb224) _ ⟨hHeld, (by (with_reducible repeat (first | apply Kd.zaz | apply Kd.zaG | apply Kd.zaJ)); exact HO220.out), (by (with_reducible repeat (first | apply Kd.zaz | apply Kd.zaG | apply Kd.zaJ)); exact HO_10.out), (by (with_reducible repeat (first | refine zaj ?_ _ | refine zan ?_ | refine zak ?_ _)); exact BK195.out), (by (with_reducible repeat (first | refine zaj ?_ _ | refine zan ?_ | refine zak ?_ _)); exact BK224.out), GW224.out, GE224.out, NB195_224.out, NB224_195.out, (by repeat (first | (with_reducible first | exact HB.out | apply zaf | apply zad | apply zae | refine zah ?_ GE195.out | refine zah ?_ GE224.out) | exact HB.out))⟩)
                    ·
                     skip
                     refine zdA ?hg (N := 18) ?hd (cs := #[.string (⟨#[]⟩ : ByteArray), .slice none 0 0, .string (⟨#[]⟩ : ByteArray)]) (t := 26) ?hr ?_; (case hd => rfl); (case hg => rfl); (case hr => first | (go_simp; done) | (go_simp; rfl))
                     intro gb224 hg w65 hbox hb
                     have HS4_ := (hb.cell (World.block_lt_of_cell? _ _ (hHeld.2.2.2.2.1))).trans (hHeld.2.2.2.2.1)
                     have HS5_ := (hb.cell (World.block_lt_of_cell? _ _ (hHeld.2.2.2.2.2))).trans (hHeld.2.2.2.2.2)
                     have n0_ := zaa.mk (Kd.zaT (by (with_reducible repeat (first | apply Kd.zaz | apply Kd.zaG | apply Kd.zaJ)); exact HO_10.out) hb)
                     have n1_ := zaa.mk (zaU (g := gb195) (o := .cells #[.string ((zab l0 t193).f0), .string ((zab l0 t193).f1), .slice A194_2 ((zab l0 t193).f2).length c194_2, .slice A194_3 ((zab l0 t193).f3).length c194_3] 45 (0, 0)) (by (with_reducible repeat (first | refine zaj ?_ _ | refine zan ?_ | refine zak ?_ _)); exact BK195.out) hb)
                     have n2_ := zaa.mk (zaL (by repeat (first | (with_reducible first | exact HB.out | apply zaf | apply zad | apply zae | refine zah ?_ GE195.out) | exact HB.out)) hb)
                     have n3_ := zaa.mk (hbox)
                     have n4_ := zaa.mk ((by rw [hg]; exact (zaD (by repeat (first | (with_reducible first | exact HB.out | apply zaf | apply zad | apply zae | refine zah ?_ GE195.out) | exact HB.out))) : w.heap.size ≤ gb224))
                     have n5_ := zaa.mk ((by rw [hg]; exact (zaD (by repeat (first | (with_reducible first | exact HB.out | apply zaf | apply zad | apply zae | refine zah ?_ GE195.out) | exact HB.out))) : w.heap.size ≤ gb224))
                     have n6_ := zaa.mk ((by rw [hg]; exact Nat.ne_of_lt (zbu (g := gb195) (o := .cells #[.string ((zab l0 t193).f0), .string ((zab l0 t193).f1), .slice A194_2 ((zab l0 t193).f2).length c194_2, .slice A194_3 ((zab l0 t193).f3).length c194_3] 45 (0, 0)) (by (with_reducible repeat (first | refine zaj ?_ _ | refine zan ?_ | refine zak ?_ _)); exact BK195.out)) : gb195 ≠ gb224))
                     have n7_ := zaa.mk ((by rw [hg]; exact Nat.ne_of_gt (zbu (g := gb195) (o := .cells #[.string ((zab l0 t193).f0), .string ((zab l0 t193).f1), .slice A194_2 ((zab l0 t193).f2).length c194_2, .slice A194_3 ((zab l0 t193).f3).length c194_3] 45 (0, 0)) (by (with_reducible repeat (first | refine zaj ?_ _ | refine zan ?_ | refine zak ?_ _)); exact BK195.out)) : gb224 ≠ gb195))
                     clear HO_10
                     clear BK195
                     clear HB
                     have HO_10 := n0_
                     have BK195 := n1_
                     have HB := n2_
                     have BK224 := n3_
                     have GW224 := n4_
                     have GE224 := n5_
                     have NB195_224 := n6_
                     have NB224_195 := n7_
                     clear n0_ n1_ n2_ n3_ n4_ n5_ n6_ n7_
                     clear hb hbox hg
                     refine hK.out _ _ ⟨(zai BK195.out 0).trans rfl, (zai BK195.out 1).trans rfl, (zai BK195.out 2).trans rfl, (zai BK195.out 3).trans rfl, HS4_, HS5_⟩ (fun hHeld => ?_)
                     clear hK K
                     refine norm_ (a' := ?_) ?_ ?_
                     rotate_left
                     ·
                      show Act.put _ (some 18) _ = _
                      simp only [Act.put, List.setIfInBounds_toArray, List.set_cons_zero, List.set_cons_succ, i64_w, i32_w]
                      rfl
                     refine one_ (i := 8) (N := some 168) #[true, true, true, true, true, true, true, true, true, false, false, false, false, true, false, false, false] rfl rfl (zdb HT_.out k9) d9 (fun K hK => ?_)
                     refine goes_ Tryd.func7 k9 rfl #[.slice (some ad194) l0.length c0, .string ((zab l0 t193).f0), .string ((zaI t204 x11_4).f0)] (by rfl) rfl rfl m9 ?_
                     with_reducible refine (zaS.calls _ _ l0 ((zab l0 t193).f0) ((zaI t204 x11_4).f0) t217 t218 t221 t222 t223 _ ?side1 ?side2 A54.out).mono ?_
                     (case side1 => repeat (first | exact (Kd.zax HR0.out HB.out) | (with_reducible refine Kd.zbs ?_ _) | (with_reducible refine Kd.zbz ?_ _) | (with_reducible refine Kd.zbZ ?_)))
                     (case side2 => exact HC0.out)
                     rintro e w66 ⟨v219, rfl, ho0, hb⟩
                     have HS4_ := (hb.cell (World.block_lt_of_cell? _ _ (hHeld.2.2.2.2.1))).trans (hHeld.2.2.2.2.1)
                     have HS5_ := (hb.cell (World.block_lt_of_cell? _ _ (hHeld.2.2.2.2.2))).trans (hHeld.2.2.2.2.2)
                     refine ⟨_, rfl, ?_⟩
                     have n0_ := zaa.mk (Kd.zaT (by (with_reducible repeat (first | apply Kd.zaz | apply Kd.zaG | apply Kd.zaJ)); exact HO_10.out) hb)
                     have n1_ := zaa.mk (Kd.zbJ ho0 (zaD (by repeat (first | (with_reducible first | exact HB.out | apply zaf | apply zad | apply zae | refine zah ?_ GE195.out | refine zah ?_ GE224.out) | exact HB.out))))
                     have n2_ := zaa.mk (zaU (g := gb195) (o := .cells #[.string ((zab l0 t193).f0), .string ((zab l0 t193).f1), .slice A194_2 ((zab l0 t193).f2).length c194_2, .slice A194_3 ((zab l0 t193).f3).length c194_3] 45 (0, 0)) (by (with_reducible repeat (first | refine zaj ?_ _ | refine zan ?_ | refine zak ?_ _)); exact BK195.out) hb)
                     have n3_ := zaa.mk (zaU (g := gb224) (o := .cells #[.string (⟨#[]⟩ : ByteArray), .slice none 0 0, .string (⟨#[]⟩ : ByteArray)] 26 (0, 0)) (by (with_reducible repeat (first | refine zaj ?_ _ | refine zan ?_ | refine zak ?_ _)); exact BK224.out) hb)
                     have n4_ := zaa.mk (zaL (by repeat (first | (with_reducible first | exact HB.out | apply zaf | apply zad | apply zae | refine zah ?_ GE195.out | refine zah ?_ GE224.out) | exact HB.out)) hb)
                     clear HO_10
                     clear BK195
                     clear BK224
                     clear HB
                     have HO_10 := n0_
                     have HO220 := n1_
                     have BK195 := n2_
                     have BK224 := n3_
                     have HB := n4_
                     clear n0_ n1_ n2_ n3_ n4_
                     (try clear hb)
                     (try clear hb2)
                     (try clear hk)
                     (try clear hi)
                     (try clear ho0)
                     refine hK.out _ _ ⟨(zai BK195.out 0).trans rfl, (zai BK195.out 1).trans rfl, (zai BK195.out 2).trans rfl, (zai BK195.out 3).trans rfl, HS4_, HS5_⟩ (fun hHeld => ?_)
                     clear hK K
                     refine norm_ (a' := ?_) ?_ ?_
                     rotate_left
                     ·
                      show Act.put _ (some 168) _ = _
                      simp only [Act.put, List.setIfInBounds_toArray, List.set_cons_zero, List.set_cons_succ, i64_w, i32_w]
                      rfl
                     refine pure_ (i := 9) (N := some 159) (v := ?_) (a' := ?_) #[true, true, true, true, true, true, true, true, true, true, false, false, false, true, false, false, false] rfl rfl (zaB HT_.out k9) (fun _ _ _ h => h) (Or.inl ⟨by rfl, ?_⟩) ?_ ?_
                     rotate_left
                     ·
                      intro w'
                      go_simp
                      with_reducible rfl
                     rotate_left
                     ·
                      simp only [Act.put, List.setIfInBounds_toArray, List.set_cons_zero, List.set_cons_succ, i64_w, i32_w]
                      rfl
                     refine pure_ (i := 10) (N := some 169) (v := ?_) (a' := ?_) #[true, true, true, true, true, true, true, true, true, true, true, false, false, true, false, false, false] rfl rfl (zaB HT_.out k9) (fun _ _ _ h => h) (Or.inl ⟨by rfl, ?_⟩) ?_ ?_
                     rotate_left
                     ·
                      intro w'
                      go_simp
                      with_reducible rfl
                     rotate_left
                     ·
                      simp only [Act.put, List.setIfInBounds_toArray, List.set_cons_zero, List.set_cons_succ, i64_w, i32_w]
                      rfl
                     refine pure_ (i := 11) (N := some 170) (v := ?_) (a' := ?_) #[true, true, true, true, true, true, true, true, true, true, true, true, false, true, false, false, false] rfl rfl (zaB HT_.out k9) (fun _ _ _ h => h) (Or.inl ⟨by rfl, ?_⟩) ?_ ?_
                     rotate_left
                     ·
                      intro w'
                      go_simp
                      with_reducible rfl
                     rotate_left
                     ·
                      simp only [Act.put, List.setIfInBounds_toArray, List.set_cons_zero, List.set_cons_succ, i64_w, i32_w]
                      rfl
                     refine pure_ (i := 12) (N := some 171) (v := ?_) (a' := ?_) #[true, true, true, true, true, true, true, true, true, true, true, true, true, true, false, false, false] rfl rfl (zaB HT_.out k9) (fun _ _ _ h => h) (Or.inl ⟨by rfl, ?_⟩) ?_ ?_
                     rotate_left
                     ·
                      intro w'
                      go_simp
                      with_reducible rfl
                     rotate_left
                     ·
                      simp only [Act.put, List.setIfInBounds_toArray, List.set_cons_zero, List.set_cons_succ, i64_w, i32_w]
                      rfl
                     exact norm_ (by simp only [zda, Act.put, List.setIfInBounds_toArray, List.set_cons_zero, List.set_cons_succ]) (hCont (v219, gb224) _ ⟨hHeld, (by (with_reducible repeat (first | apply Kd.zaz | apply Kd.zaG | apply Kd.zaJ)); exact HO220.out), (by (with_reducible repeat (first | apply Kd.zaz | apply Kd.zaG | apply Kd.zaJ)); exact HO_10.out), (by (with_reducible repeat (first | refine zaj ?_ _ | refine zan ?_ | refine zak ?_ _)); exact BK195.out), (by (with_reducible repeat (first | refine zaj ?_ _ | refine zan ?_ | refine zak ?_ _)); exact BK224.out), GW224.out, GE224.out, NB195_224.out, NB224_195.out, (by repeat (first | (with_reducible first | exact HB.out | apply zaf | apply zad | apply zae | refine zah ?_ GE195.out | refine zah ?_ GE224.out) | exact HB.out))⟩)
                   rintro ⟨v219, gb224⟩ w67 ⟨hS_, h0_, h1_, h2_, h3_, h4_, h5_, h6_, h7_, h8_⟩
                   have n0_ : zaa (Kd.R k35 35 w67 w.heap.size (fun _ => True) v219 t218) := ⟨h0_⟩
                   have n1_ : zaa (Kd.R k42 42 w67 w.heap.size (fun _ => True) (.slice (some ad207) t204.length co57) t204) := ⟨h1_⟩
                   have n2_ : zaa (w67.heap[gb195]? = some (.cells #[.string ((zab l0 t193).f0), .string ((zab l0 t193).f1), .slice A194_2 ((zab l0 t193).f2).length c194_2, .slice A194_3 ((zab l0 t193).f3).length c194_3] 45 (0, 0))) := ⟨h2_⟩
                   have n3_ : zaa (w67.heap[gb224]? = some (.cells #[.string (⟨#[]⟩ : ByteArray), .slice none 0 0, .string (⟨#[]⟩ : ByteArray)] 26 (0, 0))) := ⟨h3_⟩
                   have n4_ : zaa (w.heap.size ≤ gb224) := ⟨h4_⟩
                   have n5_ : zaa (w.heap.size ≤ gb224) := ⟨h5_⟩
                   have n6_ : zaa (gb195 ≠ gb224) := ⟨h6_⟩
                   have n7_ : zaa (gb224 ≠ gb195) := ⟨h7_⟩
                   have n8_ : zaa (Below w.heap.size w w67) := ⟨h8_⟩
                   clear HO_10
                   clear BK195
                   clear HB
                   clear h0_ h1_ h2_ h3_ h4_ h5_ h6_ h7_ h8_
                   have HO220 := n0_
                   have HO_10 := n1_
                   have BK195 := n2_
                   have BK224 := n3_
                   have GW224 := n4_
                   have GE224 := n5_
                   have NB195_224 := n6_
                   have NB224_195 := n7_
                   have HB := n8_
                   clear n0_ n1_ n2_ n3_ n4_ n5_ n6_ n7_ n8_
                   have hHeld : w67.cell? ⟨gb195, 0, none⟩ = some (.string ((zab l0 t193).f0)) ∧ w67.cell? ⟨gb195, 1, none⟩ = some (.string ((zab l0 t193).f1)) ∧ w67.cell? ⟨gb195, 2, none⟩ = some (.slice A194_2 ((zab l0 t193).f2).length c194_2) ∧ w67.cell? ⟨gb195, 3, none⟩ = some (.slice A194_3 ((zab l0 t193).f3).length c194_3) ∧ w67.cell? (ad207.add ((x11_4).toNat * 2)) = some (.string ((zaI t204 x11_4).f0)) ∧ w67.cell? ⟨(ad207.add ((x11_4).toNat * 2)).block, (ad207.add ((x11_4).toNat * 2)).off + 1, none⟩ = some (.int .i64 ((zaI t204 x11_4).f1)) := hS_
                   obtain ⟨Ao69, co69, eo69⟩ := Kd.za6 HO220.out
                   (first | subst eo69 | (injection eo69 with f1_ f2_ f3_; have f4_ := f1_.symm; have f5_ := f3_.symm; clear f1_ f2_ f3_; subst f4_; subst f5_))
                   refine norm_ (a' := ?_) ?_ ?_
                   rotate_left
                   ·
                    simp only [zda, Act.put, List.setIfInBounds_toArray, List.set_cons_zero, List.set_cons_succ]
                    rfl
                   refine one_ (i := 14) (N := none) #[true, true, true, true, true, true, true, true, true, true, true, true, true, true, true, false, false] rfl rfl (zdb HT_.out k9) d9 (fun K hK => ?_)
                   have hs68 : w67.cell? ⟨gb224, 0, none⟩ = some (.string (⟨#[]⟩ : ByteArray)) := (zai BK224.out 0).trans rfl
                   have hfs68 := zal BK224.out 0
                   have hns68_0 := NB195_224.out
                   have hms68_0 := NB224_195.out
                   have hs70 : w67.cell? ⟨gb224, 1, none⟩ = some (.slice none 0 0) := (zai BK224.out 1).trans rfl
                   have hfs70 := zal BK224.out 1
                   have hns70_0 := NB195_224.out
                   have hms70_0 := NB224_195.out
                   have hs71 : w67.cell? ⟨gb224, 2, none⟩ = some (.string (⟨#[]⟩ : ByteArray)) := (zai BK224.out 2).trans rfl
                   have hfs71 := zal BK224.out 2
                   have hns71_0 := NB195_224.out
                   have hms71_0 := NB224_195.out
                   refine skip_ (w1 := ?_) (by rfl) rfl ?_ ?_
                   rotate_left
                   ·
                    go_simp
                    rfl
                   refine hK.out _ _ ⟨((cell_far (p := ⟨gb224, _, none⟩) NB195_224.out _).trans (((cell_far (p := ⟨gb224, _, none⟩) NB195_224.out _).trans (((cell_far (p := ⟨gb224, _, none⟩) NB195_224.out _).trans (hHeld.1)))))), ((cell_far (p := ⟨gb224, _, none⟩) NB195_224.out _).trans (((cell_far (p := ⟨gb224, _, none⟩) NB195_224.out _).trans (((cell_far (p := ⟨gb224, _, none⟩) NB195_224.out _).trans (hHeld.2.1)))))), ((cell_far (p := ⟨gb224, _, none⟩) NB195_224.out _).trans (((cell_far (p := ⟨gb224, _, none⟩) NB195_224.out _).trans (((cell_far (p := ⟨gb224, _, none⟩) NB195_224.out _).trans (hHeld.2.2.1)))))), ((cell_far (p := ⟨gb224, _, none⟩) NB195_224.out _).trans (((cell_far (p := ⟨gb224, _, none⟩) NB195_224.out _).trans (((cell_far (p := ⟨gb224, _, none⟩) NB195_224.out _).trans (hHeld.2.2.2.1)))))), ((cell_far (p := ⟨gb224, _, none⟩) (by first | exact Kd.zaN (Kd.R_ne HO_10.out BK224.out d9) | (rw [add_block]; exact Kd.zaN (Kd.R_ne HO_10.out BK224.out d9)) | (show (Addr.add _ _).block ≠ _; rw [add_block]; exact Kd.zaN (Kd.R_ne HO_10.out BK224.out d9)) | (dsimp only; exact Kd.zaN (Kd.R_ne HO_10.out BK224.out d9))) _).trans (((cell_far (p := ⟨gb224, _, none⟩) (by first | exact Kd.zaN (Kd.R_ne HO_10.out BK224.out d9) | (rw [add_block]; exact Kd.zaN (Kd.R_ne HO_10.out BK224.out d9)) | (show (Addr.add _ _).block ≠ _; rw [add_block]; exact Kd.zaN (Kd.R_ne HO_10.out BK224.out d9)) | (dsimp only; exact Kd.zaN (Kd.R_ne HO_10.out BK224.out d9))) _).trans (((cell_far (p := ⟨gb224, _, none⟩) (by first | exact Kd.zaN (Kd.R_ne HO_10.out BK224.out d9) | (rw [add_block]; exact Kd.zaN (Kd.R_ne HO_10.out BK224.out d9)) | (show (Addr.add _ _).block ≠ _; rw [add_block]; exact Kd.zaN (Kd.R_ne HO_10.out BK224.out d9)) | (dsimp only; exact Kd.zaN (Kd.R_ne HO_10.out BK224.out d9))) _).trans (hHeld.2.2.2.2.1)))))), ((cell_far (p := ⟨gb224, _, none⟩) (by first | exact Kd.zaN (Kd.R_ne HO_10.out BK224.out d9) | (rw [add_block]; exact Kd.zaN (Kd.R_ne HO_10.out BK224.out d9)) | (show (Addr.add _ _).block ≠ _; rw [add_block]; exact Kd.zaN (Kd.R_ne HO_10.out BK224.out d9)) | (dsimp only; exact Kd.zaN (Kd.R_ne HO_10.out BK224.out d9))) _).trans (((cell_far (p := ⟨gb224, _, none⟩) (by first | exact Kd.zaN (Kd.R_ne HO_10.out BK224.out d9) | (rw [add_block]; exact Kd.zaN (Kd.R_ne HO_10.out BK224.out d9)) | (show (Addr.add _ _).block ≠ _; rw [add_block]; exact Kd.zaN (Kd.R_ne HO_10.out BK224.out d9)) | (dsimp only; exact Kd.zaN (Kd.R_ne HO_10.out BK224.out d9))) _).trans (((cell_far (p := ⟨gb224, _, none⟩) (by first | exact Kd.zaN (Kd.R_ne HO_10.out BK224.out d9) | (rw [add_block]; exact Kd.zaN (Kd.R_ne HO_10.out BK224.out d9)) | (show (Addr.add _ _).block ≠ _; rw [add_block]; exact Kd.zaN (Kd.R_ne HO_10.out BK224.out d9)) | (dsimp only; exact Kd.zaN (Kd.R_ne HO_10.out BK224.out d9))) _).trans (hHeld.2.2.2.2.2))))))⟩ (fun hHeld => ?_)
                   clear hK K
                   refine pure_ (i := 15) (N := some 19) (v := ?_) (a' := ?_) #[true, true, true, true, true, true, true, true, true, true, true, true, true, true, true, true, false] rfl rfl (zaB HT_.out k9) (fun _ _ _ h => h) (Or.inl ⟨by rfl, ?_⟩) ?_ ?_
                   rotate_left
                   ·
                    intro w'
                    go_simp
                    with_reducible rfl
                   rotate_left
                   ·
                    simp only [Act.put, List.setIfInBounds_toArray, List.set_cons_zero, List.set_cons_succ, i64_w, i32_w]
                    rfl
                   refine pure_ (i := 16) (N := some 20) (v := ?_) (a' := ?_) #[true, true, true, true, true, true, true, true, true, true, true, true, true, true, true, true, true] rfl rfl (zaB HT_.out k9) (fun _ _ _ h => h) (Or.inl ⟨by rfl, ?_⟩) ?_ ?_
                   rotate_left
                   ·
                    intro w'
                    go_simp
                    with_reducible rfl
                   rotate_left
                   ·
                    simp only [Act.put, List.setIfInBounds_toArray, List.set_cons_zero, List.set_cons_succ, i64_w, i32_w]
                    rfl
                   refine done_ (zcY HT_.out k9) ?_
                   try go_wp2
                   have n0_ : zaa (Kd.R k42 42 (((w67.setCell ⟨gb224, 0, none⟩ (.string t217)).setCell ⟨gb224, 1, none⟩ (.slice Ao69 t218.length co69)).setCell ⟨gb224, 2, none⟩ (.string t221)) w.heap.size (fun _ => True) (.slice (some ad207) t204.length co57) t204) := ⟨by (with_reducible repeat (first | apply Kd.zaz | apply Kd.zaG | apply Kd.zaJ)); exact Kd.zaR (Kd.R_far (p := ⟨gb224, 2, none⟩) (Kd.R_far (p := ⟨gb224, 1, none⟩) (Kd.R_far (p := ⟨gb224, 0, none⟩) (Kd.zb4 HO_10.out BK224.out d9) (fun _ hk => hk.2) (.string t217)) (fun _ hk => hk.2) (.slice Ao69 t218.length co69)) (fun _ hk => hk.2) (.string t221)) (fun _ hk => trivial)⟩
                   have n1_ : zaa (Kd.R k35 35 (((w67.setCell ⟨gb224, 0, none⟩ (.string t217)).setCell ⟨gb224, 1, none⟩ (.slice Ao69 t218.length co69)).setCell ⟨gb224, 2, none⟩ (.string t221)) w.heap.size (fun _ => True) (.slice Ao69 t218.length co69) t218) := ⟨by (with_reducible repeat (first | apply Kd.zaz | apply Kd.zaG | apply Kd.zaJ)); exact Kd.zaR (Kd.R_far (p := ⟨gb224, 2, none⟩) (Kd.R_far (p := ⟨gb224, 1, none⟩) (Kd.R_far (p := ⟨gb224, 0, none⟩) (Kd.zb4 HO220.out BK224.out d9) (fun _ hk => hk.2) (.string t217)) (fun _ hk => hk.2) (.slice Ao69 t218.length co69)) (fun _ hk => hk.2) (.string t221)) (fun _ hk => trivial)⟩
                   have n2_ : zaa ((((w67.setCell ⟨gb224, 0, none⟩ (.string t217)).setCell ⟨gb224, 1, none⟩ (.slice Ao69 t218.length co69)).setCell ⟨gb224, 2, none⟩ (.string t221)).heap[gb195]? = some (.cells #[.string ((zab l0 t193).f0), .string ((zab l0 t193).f1), .slice A194_2 ((zab l0 t193).f2).length c194_2, .slice A194_3 ((zab l0 t193).f3).length c194_3] 45 (0, 0))) := ⟨by (with_reducible repeat (first | refine zaj ?_ _ | refine zan ?_ | refine zak ?_ _)); refine zb5 ?_ NB195_224.out _; (with_reducible repeat (first | refine zaj ?_ _ | refine zan ?_ | refine zak ?_ _)); refine zb5 ?_ NB195_224.out _; (with_reducible repeat (first | refine zaj ?_ _ | refine zan ?_ | refine zak ?_ _)); refine zb5 ?_ NB195_224.out _; (with_reducible repeat (first | refine zaj ?_ _ | refine zan ?_ | refine zak ?_ _)); exact BK195.out⟩
                   have n3_ : zaa ((((w67.setCell ⟨gb224, 0, none⟩ (.string t217)).setCell ⟨gb224, 1, none⟩ (.slice Ao69 t218.length co69)).setCell ⟨gb224, 2, none⟩ (.string t221)).heap[gb224]? = some (.cells #[.string t217, .slice Ao69 t218.length co69, .string t221] 26 (0, 0))) := ⟨by (with_reducible repeat (first | refine zaj ?_ _ | refine zan ?_ | refine zak ?_ _)); refine zay (cs := #[.string t217, .slice Ao69 t218.length co69, .string (⟨#[]⟩ : ByteArray)]) ?_ 2 _ rfl; (with_reducible repeat (first | refine zaj ?_ _ | refine zan ?_ | refine zak ?_ _)); refine zay (cs := #[.string t217, .slice none 0 0, .string (⟨#[]⟩ : ByteArray)]) ?_ 1 _ rfl; (with_reducible repeat (first | refine zaj ?_ _ | refine zan ?_ | refine zak ?_ _)); refine zay (cs := #[.string (⟨#[]⟩ : ByteArray), .slice none 0 0, .string (⟨#[]⟩ : ByteArray)]) ?_ 0 _ rfl; (with_reducible repeat (first | refine zaj ?_ _ | refine zan ?_ | refine zak ?_ _)); exact BK224.out⟩
                   have n4_ : zaa (Below w.heap.size w (((w67.setCell ⟨gb224, 0, none⟩ (.string t217)).setCell ⟨gb224, 1, none⟩ (.slice Ao69 t218.length co69)).setCell ⟨gb224, 2, none⟩ (.string t221))) := ⟨by repeat (first | (with_reducible first | exact HB.out | apply zaf | apply zad | apply zae | refine zah ?_ GE195.out | refine zah ?_ GE224.out) | exact HB.out)⟩
                   (try clear HO_10)
                   (try clear HO220)
                   (try clear BK195)
                   (try clear BK224)
                   (try clear HB)
                   generalize (((w67.setCell ⟨gb224, 0, none⟩ (.string t217)).setCell ⟨gb224, 1, none⟩ (.slice Ao69 t218.length co69)).setCell ⟨gb224, 2, none⟩ (.string t221)) = w72 at n0_ n1_ n2_ n3_ n4_ ⊢
                   have HO_10 := n0_
                   have HO220 := n1_
                   have BK195 := n2_
                   have BK224 := n3_
                   have HB := n4_
                   clear n0_ n1_ n2_ n3_ n4_
                   have n0_ := zaa.mk (Kd.zaJ HO_10.out)
                   have n1_ := zaa.mk (Kd.zaJ HO220.out)
                   have n2_ := zaa.mk (zan BK195.out)
                   have n3_ := zaa.mk (zan BK224.out)
                   have n4_ := zaa.mk (zae HB.out)
                   clear HO_10
                   clear HO220
                   clear BK195
                   clear BK224
                   clear HB
                   have HO_10 := n0_
                   have HO220 := n1_
                   have BK195 := n2_
                   have BK224 := n3_
                   have HB := n4_
                   clear n0_ n1_ n2_ n3_ n4_
                   have p225 : 0 ≤ (x11_4 : Int) := of_decide_eq_true (by first | (with_reducible assumption) | assumption)
                   have q225 : x11_4 < (t204.length : Int) := of_decide_eq_true (by first | (with_reducible assumption) | assumption)
                   obtain ⟨ad225, e225, hx225_0, hx225_1⟩ := zcS (Kd.zbb HO_10.out).2.2 x11_4 p225 q225
                   obtain rfl : ad207 = ad225 := (by injection e225)
                   replace p225 := eq_true p225
                   replace q225 := eq_true q225
                   refine zdZ (n := 17) (S := fun w' => w'.cell? ⟨gb195, 0, none⟩ = some (.string ((zab l0 t193).f0)) ∧ w'.cell? ⟨gb195, 1, none⟩ = some (.string ((zab l0 t193).f1)) ∧ w'.cell? ⟨gb195, 2, none⟩ = some (.slice A194_2 ((zab l0 t193).f2).length c194_2) ∧ w'.cell? ⟨gb195, 3, none⟩ = some (.slice A194_3 ((zab l0 t193).f3).length c194_3) ∧ w'.cell? (ad207.add ((x11_4).toNat * 2)) = some (.string ((zaI t204 x11_4).f0)) ∧ w'.cell? ⟨(ad207.add ((x11_4).toNat * 2)).block, (ad207.add ((x11_4).toNat * 2)).off + 1, none⟩ = some (.int .i64 ((zaI t204 x11_4).f1))) (ds := []) #[false, false, false, false, false, false, false, false, false, false, false, false, false, false, false, false, false] k9 rfl rfl ⟨(zai BK195.out 0).trans rfl, (zai BK195.out 1).trans rfl, (zai BK195.out 2).trans rfl, (zai BK195.out 3).trans rfl, hx225_0, hx225_1⟩ (fun hHeld => ?_); refine zce chaperonlaw05_TableAbove.tab21 chaperonlaw05_TableAbove.bits21 (fun HT_ HW_ => ?_)
                   generalize w72.drew = w73 at HO_10 HO220 BK195 BK224 HB hx225_0 hx225_1 hHeld ⊢
                   refine pure_ (i := 0) (N := some 173) (v := ?_) (a' := ?_) #[true, false, false, false, false, false, false, false, false, false, false, false, false, false, false, false, false] rfl rfl (zaB HT_.out k9) (fun _ _ _ h => h) (Or.inl ⟨by rfl, ?_⟩) ?_ ?_
                   rotate_left
                   ·
                    intro w'
                    go_simp
                    with_reducible rfl
                   rotate_left
                   ·
                    simp only [Act.put, List.setIfInBounds_toArray, List.set_cons_zero, List.set_cons_succ, i64_w, i32_w]
                    rfl
                   refine pure_ (i := 1) (N := some 174) (v := ?_) (a' := ?_) #[true, true, false, false, false, false, false, false, false, false, false, false, false, false, false, false, false] rfl rfl (zaB HT_.out k9) (fun _ _ _ h => h) (Or.inl ⟨by rfl, ?_⟩) ?_ ?_
                   rotate_left
                   ·
                    intro w'
                    go_simp
                    with_reducible rfl
                   rotate_left
                   ·
                    simp only [Act.put, List.setIfInBounds_toArray, List.set_cons_zero, List.set_cons_succ, i64_w, i32_w]
                    rfl
                   refine pure_ (i := 3) (N := some 176) (v := ?_) (a' := ?_) #[true, true, false, true, false, false, false, false, false, false, false, false, false, false, false, false, false] rfl rfl (zaB HT_.out k9) (fun _ _ _ h => h) (Or.inl ⟨by rfl, ?_⟩) ?_ ?_
                   rotate_left
                   ·
                    intro w'
                    go_simp
                    with_reducible rfl
                   rotate_left
                   ·
                    simp only [Act.put, List.setIfInBounds_toArray, List.set_cons_zero, List.set_cons_succ, i64_w, i32_w]
                    rfl
                   refine pure_ (i := 4) (N := some 177) (v := ?_) (a' := ?_) #[true, true, false, true, true, false, false, false, false, false, false, false, false, false, false, false, false] rfl rfl (zaB HT_.out k9) (fun _ _ _ h => h) (Or.inl ⟨by rfl, ?_⟩) ?_ ?_
                   rotate_left
                   ·
                    intro w'
                    go_simp
                    with_reducible rfl
                   rotate_left
                   ·
                    simp only [Act.put, List.setIfInBounds_toArray, List.set_cons_zero, List.set_cons_succ, i64_w, i32_w]
                    rfl
                   refine pure_ (i := 5) (N := some 178) (v := ?_) (a' := ?_) #[true, true, false, true, true, true, false, false, false, false, false, false, false, false, false, false, false] rfl rfl (zaB HT_.out k9) (fun _ _ _ h => h) (Or.inl ⟨by rfl, ?_⟩) ?_ ?_
                   rotate_left
                   ·
                    intro w'
                    go_simp
                    with_reducible rfl
                   rotate_left
                   ·
                    simp only [Act.put, List.setIfInBounds_toArray, List.set_cons_zero, List.set_cons_succ, i64_w, i32_w]
                    rfl
                   refine pure_ (i := 6) (N := some 179) (v := ?_) (a' := ?_) #[true, true, false, true, true, true, true, false, false, false, false, false, false, false, false, false, false] rfl rfl (zaB HT_.out k9) (fun _ _ _ h => h) (Or.inl ⟨by rfl, ?_⟩) ?_ ?_
                   rotate_left
                   ·
                    intro w'
                    go_simp
                    with_reducible rfl
                   rotate_left
                   ·
                    simp only [Act.put, List.setIfInBounds_toArray, List.set_cons_zero, List.set_cons_succ, i64_w, i32_w]
                    rfl
                   refine take_ (i := 2) (N := some 175) (v := ?_) (a' := ?_) #[true, true, true, true, true, true, true, false, false, false, false, false, false, false, false, false, false] rfl rfl (zbp HT_.out HW_.out k9) (fun _ _ _ h => h) (Or.inl ⟨by rfl, ?_⟩) hHeld ?_ ?_
                   rotate_left
                   ·
                    rintro w' ⟨s0, s1, s2, s3, s4, s5⟩
                    go_simp
                    with_reducible rfl
                   rotate_left
                   ·
                    simp only [Act.put, List.setIfInBounds_toArray, List.set_cons_zero, List.set_cons_succ, i64_w, i32_w]
                    rfl
                   refine take_ (i := 7) (N := some 180) (v := ?_) (a' := ?_) #[true, true, true, true, true, true, true, true, false, false, false, false, false, false, false, false, false] rfl rfl (zbp HT_.out HW_.out k9) (fun _ _ _ h => h) (Or.inl ⟨by rfl, ?_⟩) hHeld ?_ ?_
                   rotate_left
                   ·
                    rintro w' ⟨s0, s1, s2, s3, s4, s5⟩
                    go_simp
                    with_reducible rfl
                   rotate_left
                   ·
                    simp only [Act.put, List.setIfInBounds_toArray, List.set_cons_zero, List.set_cons_succ, i64_w, i32_w]
                    rfl
                   refine join_ (σ := Value × Nat) 3 #[true, true, true, true, true, true, true, true, true, true, true, true, true, true, false, false, false] (fun s_ => [(181, .tuple #[.agg #[.string t226, s_.1, .string t230], .string t231, .bool t232]), (21, .pointer (some ⟨s_.2, 0, none⟩)), (172, .tuple #[.agg #[.string t226, s_.1, .string t230], .string t231, .bool t232]), (182, .agg #[.string t226, s_.1, .string t230]), (183, .string t231), (184, .bool t232)]) (fun s_ w' => (w'.cell? ⟨gb195, 0, none⟩ = some (.string ((zab l0 t193).f0)) ∧ w'.cell? ⟨gb195, 1, none⟩ = some (.string ((zab l0 t193).f1)) ∧ w'.cell? ⟨gb195, 2, none⟩ = some (.slice A194_2 ((zab l0 t193).f2).length c194_2) ∧ w'.cell? ⟨gb195, 3, none⟩ = some (.slice A194_3 ((zab l0 t193).f3).length c194_3) ∧ w'.cell? (ad207.add ((x11_4).toNat * 2)) = some (.string ((zaI t204 x11_4).f0)) ∧ w'.cell? ⟨(ad207.add ((x11_4).toNat * 2)).block, (ad207.add ((x11_4).toNat * 2)).off + 1, none⟩ = some (.int .i64 ((zaI t204 x11_4).f1))) ∧ (Kd.R k35 35 w' w.heap.size (fun k_ => some k_ ≠ (s_.1 : Value).ownBlock) (.slice Ao69 t218.length co69) t218) ∧ (Kd.R k35 35 w' w.heap.size (fun k_ => some k_ ≠ (.slice Ao69 t218.length co69 : Value).ownBlock) s_.1 t227) ∧ (Kd.R k42 42 w' w.heap.size (fun _ => True) (.slice (some ad207) t204.length co57) t204) ∧ (w'.heap[gb195]? = some (.cells #[.string ((zab l0 t193).f0), .string ((zab l0 t193).f1), .slice A194_2 ((zab l0 t193).f2).length c194_2, .slice A194_3 ((zab l0 t193).f3).length c194_3] 45 (0, 0))) ∧ (w'.heap[gb224]? = some (.cells #[.string t217, .slice Ao69 t218.length co69, .string t221] 26 (0, 0))) ∧ (w'.heap[s_.2]? = some (.cells #[.string (⟨#[]⟩ : ByteArray), .slice none 0 0, .string (⟨#[]⟩ : ByteArray)] 26 (0, 0))) ∧ (w.heap.size ≤ s_.2) ∧ (w.heap.size ≤ s_.2) ∧ (gb195 ≠ s_.2) ∧ (s_.2 ≠ gb195) ∧ (gb224 ≠ s_.2) ∧ (s_.2 ≠ gb224) ∧ (Below w.heap.size w w')) ?_ ?_
                   rotate_left
                   ·
                    intro hCont
                    refine two_ (i := 8) (j := 13) (Ni := some 181) (Nj := some 21) #[true, true, true, true, true, true, true, true, true, false, false, false, false, false, false, false, false] #[true, true, true, true, true, true, true, true, false, false, false, false, false, true, false, false, false] rfl rfl rfl rfl (zhW HT_.out k9) d9 d9 (fun K hK => ?_) (fun K hK => ?_)
                    ·
                     skip
                     refine goes_ Tryd.func7 k9 rfl #[.slice (some ad194) l0.length c0, .string ((zab l0 t193).f1), .string ((zaI t204 x11_4).f0)] (by rfl) rfl rfl m9 ?_
                     with_reducible refine (zaS.calls _ _ l0 ((zab l0 t193).f1) ((zaI t204 x11_4).f0) t226 t227 t230 t231 t232 _ ?side1 ?side2 A55.out).mono ?_
                     (case side1 => repeat (first | exact (Kd.zax HR0.out HB.out) | (with_reducible refine Kd.zbs ?_ _) | (with_reducible refine Kd.zbz ?_ _) | (with_reducible refine Kd.zbZ ?_)))
                     (case side2 => exact HC0.out)
                     rintro e w74 ⟨v228, rfl, ho0, hb⟩
                     have HS4_ := (hb.cell (World.block_lt_of_cell? _ _ (hHeld.2.2.2.2.1))).trans (hHeld.2.2.2.2.1)
                     have HS5_ := (hb.cell (World.block_lt_of_cell? _ _ (hHeld.2.2.2.2.2))).trans (hHeld.2.2.2.2.2)
                     refine ⟨_, rfl, ?_⟩
                     have n0_ := zaa.mk (Kd.zaT (by (with_reducible repeat (first | apply Kd.zaz | apply Kd.zaG | apply Kd.zaJ)); exact HO_10.out) hb)
                     have n1_ := zaa.mk (Kd.zeR (by (with_reducible repeat (first | apply Kd.zaz | apply Kd.zaG | apply Kd.zaJ)); exact HO220.out) (Kd.zfl ho0) hb)
                     have n2_ := zaa.mk (Kd.zbJ (Kd.zgF ho0 (Kd.R_lt (by (with_reducible repeat (first | apply Kd.zaz | apply Kd.zaG | apply Kd.zaJ)); exact HO220.out))) (zaD (by repeat (first | (with_reducible first | exact HB.out | apply zaf | apply zad | apply zae | refine zah ?_ GE195.out | refine zah ?_ GE224.out) | exact HB.out))))
                     have n3_ := zaa.mk (zaU (g := gb195) (o := .cells #[.string ((zab l0 t193).f0), .string ((zab l0 t193).f1), .slice A194_2 ((zab l0 t193).f2).length c194_2, .slice A194_3 ((zab l0 t193).f3).length c194_3] 45 (0, 0)) (by (with_reducible repeat (first | refine zaj ?_ _ | refine zan ?_ | refine zak ?_ _)); exact BK195.out) hb)
                     have n4_ := zaa.mk (zaU (g := gb224) (o := .cells #[.string t217, .slice Ao69 t218.length co69, .string t221] 26 (0, 0)) (by (with_reducible repeat (first | refine zaj ?_ _ | refine zan ?_ | refine zak ?_ _)); exact BK224.out) hb)
                     have n5_ := zaa.mk (zaL (by repeat (first | (with_reducible first | exact HB.out | apply zaf | apply zad | apply zae | refine zah ?_ GE195.out | refine zah ?_ GE224.out) | exact HB.out)) hb)
                     clear HO_10
                     clear HO220
                     clear BK195
                     clear BK224
                     clear HB
                     have HO_10 := n0_
                     have HO220 := n1_
                     have HO229 := n2_
                     have BK195 := n3_
                     have BK224 := n4_
                     have HB := n5_
                     clear n0_ n1_ n2_ n3_ n4_ n5_
                     (try clear hb)
                     (try clear hb2)
                     (try clear hk)
                     (try clear hi)
                     (try clear ho0)
                     refine hK.out _ _ ⟨(zai BK195.out 0).trans rfl, (zai BK195.out 1).trans rfl, (zai BK195.out 2).trans rfl, (zai BK195.out 3).trans rfl, HS4_, HS5_⟩ (fun hHeld => ?_)
                     clear hK K
                     refine norm_ (a' := ?_) ?_ ?_
                     rotate_left
                     ·
                      show Act.put _ (some 181) _ = _
                      simp only [Act.put, List.setIfInBounds_toArray, List.set_cons_zero, List.set_cons_succ, i64_w, i32_w]
                      rfl
                     refine pure_ (i := 9) (N := some 172) (v := ?_) (a' := ?_) #[true, true, true, true, true, true, true, true, true, true, false, false, false, false, false, false, false] rfl rfl (zaB HT_.out k9) (fun _ _ _ h => h) (Or.inl ⟨by rfl, ?_⟩) ?_ ?_
                     rotate_left
                     ·
                      intro w'
                      go_simp
                      with_reducible rfl
                     rotate_left
                     ·
                      simp only [Act.put, List.setIfInBounds_toArray, List.set_cons_zero, List.set_cons_succ, i64_w, i32_w]
                      rfl
                     refine pure_ (i := 10) (N := some 182) (v := ?_) (a' := ?_) #[true, true, true, true, true, true, true, true, true, true, true, false, false, false, false, false, false] rfl rfl (zaB HT_.out k9) (fun _ _ _ h => h) (Or.inl ⟨by rfl, ?_⟩) ?_ ?_
                     rotate_left
                     ·
                      intro w'
                      go_simp
                      with_reducible rfl
                     rotate_left
                     ·
                      simp only [Act.put, List.setIfInBounds_toArray, List.set_cons_zero, List.set_cons_succ, i64_w, i32_w]
                      rfl
                     refine pure_ (i := 11) (N := some 183) (v := ?_) (a' := ?_) #[true, true, true, true, true, true, true, true, true, true, true, true, false, false, false, false, false] rfl rfl (zaB HT_.out k9) (fun _ _ _ h => h) (Or.inl ⟨by rfl, ?_⟩) ?_ ?_
                     rotate_left
                     ·
                      intro w'
                      go_simp
                      with_reducible rfl
                     rotate_left
                     ·
                      simp only [Act.put, List.setIfInBounds_toArray, List.set_cons_zero, List.set_cons_succ, i64_w, i32_w]
                      rfl
                     refine pure_ (i := 12) (N := some 184) (v := ?_) (a' := ?_) #[true, true, true, true, true, true, true, true, true, true, true, true, true, false, false, false, false] rfl rfl (zaB HT_.out k9) (fun _ _ _ h => h) (Or.inl ⟨by rfl, ?_⟩) ?_ ?_
                     rotate_left
                     ·
                      intro w'
                      go_simp
                      with_reducible rfl
                     rotate_left
                     ·
                      simp only [Act.put, List.setIfInBounds_toArray, List.set_cons_zero, List.set_cons_succ, i64_w, i32_w]
                      rfl
                     refine one_ (i := 13) (N := some 21) #[true, true, true, true, true, true, true, true, true, true, true, true, true, true, false, false, false] rfl rfl (zdb HT_.out k9) d9 (fun K hK => ?_)
                     refine zdA ?hg (N := 21) ?hd (cs := #[.string (⟨#[]⟩ : ByteArray), .slice none 0 0, .string (⟨#[]⟩ : ByteArray)]) (t := 26) ?hr ?_; (case hd => rfl); (case hg => rfl); (case hr => first | (go_simp; done) | (go_simp; rfl))
                     intro gb233 hg w75 hbox hb
                     have HS4_ := (hb.cell (World.block_lt_of_cell? _ _ (hHeld.2.2.2.2.1))).trans (hHeld.2.2.2.2.1)
                     have HS5_ := (hb.cell (World.block_lt_of_cell? _ _ (hHeld.2.2.2.2.2))).trans (hHeld.2.2.2.2.2)
                     have n0_ := zaa.mk (Kd.zaT (by (with_reducible repeat (first | apply Kd.zaz | apply Kd.zaG | apply Kd.zaJ)); exact HO_10.out) hb)
                     have n1_ := zaa.mk (Kd.zaT (by (with_reducible repeat (first | apply Kd.zaz | apply Kd.zaG | apply Kd.zaJ)); exact HO220.out) hb)
                     have n2_ := zaa.mk (Kd.zaT (by (with_reducible repeat (first | apply Kd.zaz | apply Kd.zaG | apply Kd.zaJ)); exact HO229.out) hb)
                     have n3_ := zaa.mk (zaU (g := gb195) (o := .cells #[.string ((zab l0 t193).f0), .string ((zab l0 t193).f1), .slice A194_2 ((zab l0 t193).f2).length c194_2, .slice A194_3 ((zab l0 t193).f3).length c194_3] 45 (0, 0)) (by (with_reducible repeat (first | refine zaj ?_ _ | refine zan ?_ | refine zak ?_ _)); exact BK195.out) hb)
                     have n4_ := zaa.mk (zaU (g := gb224) (o := .cells #[.string t217, .slice Ao69 t218.length co69, .string t221] 26 (0, 0)) (by (with_reducible repeat (first | refine zaj ?_ _ | refine zan ?_ | refine zak ?_ _)); exact BK224.out) hb)
                     have n5_ := zaa.mk (zaL (by repeat (first | (with_reducible first | exact HB.out | apply zaf | apply zad | apply zae | refine zah ?_ GE195.out | refine zah ?_ GE224.out) | exact HB.out)) hb)
                     have n6_ := zaa.mk (hbox)
                     have n7_ := zaa.mk ((by rw [hg]; exact (zaD (by repeat (first | (with_reducible first | exact HB.out | apply zaf | apply zad | apply zae | refine zah ?_ GE195.out | refine zah ?_ GE224.out) | exact HB.out))) : w.heap.size ≤ gb233))
                     have n8_ := zaa.mk ((by rw [hg]; exact (zaD (by repeat (first | (with_reducible first | exact HB.out | apply zaf | apply zad | apply zae | refine zah ?_ GE195.out | refine zah ?_ GE224.out) | exact HB.out))) : w.heap.size ≤ gb233))
                     have n9_ := zaa.mk ((by rw [hg]; exact Nat.ne_of_lt (zbu (g := gb195) (o := .cells #[.string ((zab l0 t193).f0), .string ((zab l0 t193).f1), .slice A194_2 ((zab l0 t193).f2).length c194_2, .slice A194_3 ((zab l0 t193).f3).length c194_3] 45 (0, 0)) (by (with_reducible repeat (first | refine zaj ?_ _ | refine zan ?_ | refine zak ?_ _)); exact BK195.out)) : gb195 ≠ gb233))
                     have n10_ := zaa.mk ((by rw [hg]; exact Nat.ne_of_gt (zbu (g := gb195) (o := .cells #[.string ((zab l0 t193).f0), .string ((zab l0 t193).f1), .slice A194_2 ((zab l0 t193).f2).length c194_2, .slice A194_3 ((zab l0 t193).f3).length c194_3] 45 (0, 0)) (by (with_reducible repeat (first | refine zaj ?_ _ | refine zan ?_ | refine zak ?_ _)); exact BK195.out)) : gb233 ≠ gb195))
                     have n11_ := zaa.mk ((by rw [hg]; exact Nat.ne_of_lt (zbu (g := gb224) (o := .cells #[.string t217, .slice Ao69 t218.length co69, .string t221] 26 (0, 0)) (by (with_reducible repeat (first | refine zaj ?_ _ | refine zan ?_ | refine zak ?_ _)); exact BK224.out)) : gb224 ≠ gb233))
                     have n12_ := zaa.mk ((by rw [hg]; exact Nat.ne_of_gt (zbu (g := gb224) (o := .cells #[.string t217, .slice Ao69 t218.length co69, .string t221] 26 (0, 0)) (by (with_reducible repeat (first | refine zaj ?_ _ | refine zan ?_ | refine zak ?_ _)); exact BK224.out)) : gb233 ≠ gb224))
                     clear HO_10
                     clear HO220
                     clear HO229
                     clear BK195
                     clear BK224
                     clear HB
                     have HO_10 := n0_
                     have HO220 := n1_
                     have HO229 := n2_
                     have BK195 := n3_
                     have BK224 := n4_
                     have HB := n5_
                     have BK233 := n6_
                     have GW233 := n7_
                     have GE233 := n8_
                     have NB195_233 := n9_
                     have NB233_195 := n10_
                     have NB224_233 := n11_
                     have NB233_224 := n12_
                     clear n0_ n1_ n2_ n3_ n4_ n5_ n6_ n7_ n8_ n9_ n10_ n11_ n12_
                     clear hb hbox hg
                     refine hK.out _ _ ⟨(zai BK195.out 0).trans rfl, (zai BK195.out 1).trans rfl, (zai BK195.out 2).trans rfl, (zai BK195.out 3).trans rfl, HS4_, HS5_⟩ (fun hHeld => ?_)
                     clear hK K
                     refine norm_ (a' := ?_) ?_ ?_
                     rotate_left
                     ·
                      show Act.put _ (some 21) _ = _
                      simp only [Act.put, List.setIfInBounds_toArray, List.set_cons_zero, List.set_cons_succ, i64_w, i32_w]
                      rfl
                     exact norm_ (by simp only [zda, Act.put, List.setIfInBounds_toArray, List.set_cons_zero, List.set_cons_succ]) (hCont (v228, gb233) _ ⟨hHeld, (by (with_reducible repeat (first | apply Kd.zaz | apply Kd.zaG | apply Kd.zaJ)); exact Kd.zaR HO220.out (fun _ hk => hk.2)), (by (with_reducible repeat (first | apply Kd.zaz | apply Kd.zaG | apply Kd.zaJ)); exact Kd.zaR HO229.out (fun _ hk => hk.2)), (by (with_reducible repeat (first | apply Kd.zaz | apply Kd.zaG | apply Kd.zaJ)); exact HO_10.out), (by (with_reducible repeat (first | refine zaj ?_ _ | refine zan ?_ | refine zak ?_ _)); exact BK195.out), (by (with_reducible repeat (first | refine zaj ?_ _ | refine zan ?_ | refine zak ?_ _)); exact BK224.out), (by (with_reducible repeat (first | refine zaj ?_ _ | refine zan ?_ | refine zak ?_ _)); exact BK233.out), GW233.out, GE233.out, NB195_233.out, NB233_195.out, NB224_233.out, NB233_224.out, (by repeat (first | (with_reducible first | exact HB.out | apply zaf | apply zad | apply zae | refine zah ?_ GE195.out | refine zah ?_ GE224.out | refine zah ?_ GE233.out) | exact HB.out))⟩)
                    ·
                     skip
                     refine zdA ?hg (N := 21) ?hd (cs := #[.string (⟨#[]⟩ : ByteArray), .slice none 0 0, .string (⟨#[]⟩ : ByteArray)]) (t := 26) ?hr ?_; (case hd => rfl); (case hg => rfl); (case hr => first | (go_simp; done) | (go_simp; rfl))
                     intro gb233 hg w74 hbox hb
                     have HS4_ := (hb.cell (World.block_lt_of_cell? _ _ (hHeld.2.2.2.2.1))).trans (hHeld.2.2.2.2.1)
                     have HS5_ := (hb.cell (World.block_lt_of_cell? _ _ (hHeld.2.2.2.2.2))).trans (hHeld.2.2.2.2.2)
                     have n0_ := zaa.mk (Kd.zaT (by (with_reducible repeat (first | apply Kd.zaz | apply Kd.zaG | apply Kd.zaJ)); exact HO_10.out) hb)
                     have n1_ := zaa.mk (Kd.zaT (by (with_reducible repeat (first | apply Kd.zaz | apply Kd.zaG | apply Kd.zaJ)); exact HO220.out) hb)
                     have n2_ := zaa.mk (zaU (g := gb195) (o := .cells #[.string ((zab l0 t193).f0), .string ((zab l0 t193).f1), .slice A194_2 ((zab l0 t193).f2).length c194_2, .slice A194_3 ((zab l0 t193).f3).length c194_3] 45 (0, 0)) (by (with_reducible repeat (first | refine zaj ?_ _ | refine zan ?_ | refine zak ?_ _)); exact BK195.out) hb)
                     have n3_ := zaa.mk (zaU (g := gb224) (o := .cells #[.string t217, .slice Ao69 t218.length co69, .string t221] 26 (0, 0)) (by (with_reducible repeat (first | refine zaj ?_ _ | refine zan ?_ | refine zak ?_ _)); exact BK224.out) hb)
                     have n4_ := zaa.mk (zaL (by repeat (first | (with_reducible first | exact HB.out | apply zaf | apply zad | apply zae | refine zah ?_ GE195.out | refine zah ?_ GE224.out) | exact HB.out)) hb)
                     have n5_ := zaa.mk (hbox)
                     have n6_ := zaa.mk ((by rw [hg]; exact (zaD (by repeat (first | (with_reducible first | exact HB.out | apply zaf | apply zad | apply zae | refine zah ?_ GE195.out | refine zah ?_ GE224.out) | exact HB.out))) : w.heap.size ≤ gb233))
                     have n7_ := zaa.mk ((by rw [hg]; exact (zaD (by repeat (first | (with_reducible first | exact HB.out | apply zaf | apply zad | apply zae | refine zah ?_ GE195.out | refine zah ?_ GE224.out) | exact HB.out))) : w.heap.size ≤ gb233))
                     have n8_ := zaa.mk ((by rw [hg]; exact Nat.ne_of_lt (zbu (g := gb195) (o := .cells #[.string ((zab l0 t193).f0), .string ((zab l0 t193).f1), .slice A194_2 ((zab l0 t193).f2).length c194_2, .slice A194_3 ((zab l0 t193).f3).length c194_3] 45 (0, 0)) (by (with_reducible repeat (first | refine zaj ?_ _ | refine zan ?_ | refine zak ?_ _)); exact BK195.out)) : gb195 ≠ gb233))
                     have n9_ := zaa.mk ((by rw [hg]; exact Nat.ne_of_gt (zbu (g := gb195) (o := .cells #[.string ((zab l0 t193).f0), .string ((zab l0 t193).f1), .slice A194_2 ((zab l0 t193).f2).length c194_2, .slice A194_3 ((zab l0 t193).f3).length c194_3] 45 (0, 0)) (by (with_reducible repeat (first | refine zaj ?_ _ | refine zan ?_ | refine zak ?_ _)); exact BK195.out)) : gb233 ≠ gb195))
                     have n10_ := zaa.mk ((by rw [hg]; exact Nat.ne_of_lt (zbu (g := gb224) (o := .cells #[.string t217, .slice Ao69 t218.length co69, .string t221] 26 (0, 0)) (by (with_reducible repeat (first | refine zaj ?_ _ | refine zan ?_ | refine zak ?_ _)); exact BK224.out)) : gb224 ≠ gb233))
                     have n11_ := zaa.mk ((by rw [hg]; exact Nat.ne_of_gt (zbu (g := gb224) (o := .cells #[.string t217, .slice Ao69 t218.length co69, .string t221] 26 (0, 0)) (by (with_reducible repeat (first | refine zaj ?_ _ | refine zan ?_ | refine zak ?_ _)); exact BK224.out)) : gb233 ≠ gb224))
                     clear HO_10
                     clear HO220
                     clear BK195
                     clear BK224
                     clear HB
                     have HO_10 := n0_
                     have HO220 := n1_
                     have BK195 := n2_
                     have BK224 := n3_
                     have HB := n4_
                     have BK233 := n5_
                     have GW233 := n6_
                     have GE233 := n7_
                     have NB195_233 := n8_
                     have NB233_195 := n9_
                     have NB224_233 := n10_
                     have NB233_224 := n11_
                     clear n0_ n1_ n2_ n3_ n4_ n5_ n6_ n7_ n8_ n9_ n10_ n11_
                     clear hb hbox hg
                     refine hK.out _ _ ⟨(zai BK195.out 0).trans rfl, (zai BK195.out 1).trans rfl, (zai BK195.out 2).trans rfl, (zai BK195.out 3).trans rfl, HS4_, HS5_⟩ (fun hHeld => ?_)
                     clear hK K
                     refine norm_ (a' := ?_) ?_ ?_
                     rotate_left
                     ·
                      show Act.put _ (some 21) _ = _
                      simp only [Act.put, List.setIfInBounds_toArray, List.set_cons_zero, List.set_cons_succ, i64_w, i32_w]
                      rfl
                     refine one_ (i := 8) (N := some 181) #[true, true, true, true, true, true, true, true, true, false, false, false, false, true, false, false, false] rfl rfl (zdb HT_.out k9) d9 (fun K hK => ?_)
                     refine goes_ Tryd.func7 k9 rfl #[.slice (some ad194) l0.length c0, .string ((zab l0 t193).f1), .string ((zaI t204 x11_4).f0)] (by rfl) rfl rfl m9 ?_
                     with_reducible refine (zaS.calls _ _ l0 ((zab l0 t193).f1) ((zaI t204 x11_4).f0) t226 t227 t230 t231 t232 _ ?side1 ?side2 A55.out).mono ?_
                     (case side1 => repeat (first | exact (Kd.zax HR0.out HB.out) | (with_reducible refine Kd.zbs ?_ _) | (with_reducible refine Kd.zbz ?_ _) | (with_reducible refine Kd.zbZ ?_)))
                     (case side2 => exact HC0.out)
                     rintro e w75 ⟨v228, rfl, ho0, hb⟩
                     have HS4_ := (hb.cell (World.block_lt_of_cell? _ _ (hHeld.2.2.2.2.1))).trans (hHeld.2.2.2.2.1)
                     have HS5_ := (hb.cell (World.block_lt_of_cell? _ _ (hHeld.2.2.2.2.2))).trans (hHeld.2.2.2.2.2)
                     refine ⟨_, rfl, ?_⟩
                     have n0_ := zaa.mk (Kd.zaT (by (with_reducible repeat (first | apply Kd.zaz | apply Kd.zaG | apply Kd.zaJ)); exact HO_10.out) hb)
                     have n1_ := zaa.mk (Kd.zeR (by (with_reducible repeat (first | apply Kd.zaz | apply Kd.zaG | apply Kd.zaJ)); exact HO220.out) (Kd.zfl ho0) hb)
                     have n2_ := zaa.mk (Kd.zbJ (Kd.zgF ho0 (Kd.R_lt (by (with_reducible repeat (first | apply Kd.zaz | apply Kd.zaG | apply Kd.zaJ)); exact HO220.out))) (zaD (by repeat (first | (with_reducible first | exact HB.out | apply zaf | apply zad | apply zae | refine zah ?_ GE195.out | refine zah ?_ GE224.out | refine zah ?_ GE233.out) | exact HB.out))))
                     have n3_ := zaa.mk (zaU (g := gb195) (o := .cells #[.string ((zab l0 t193).f0), .string ((zab l0 t193).f1), .slice A194_2 ((zab l0 t193).f2).length c194_2, .slice A194_3 ((zab l0 t193).f3).length c194_3] 45 (0, 0)) (by (with_reducible repeat (first | refine zaj ?_ _ | refine zan ?_ | refine zak ?_ _)); exact BK195.out) hb)
                     have n4_ := zaa.mk (zaU (g := gb224) (o := .cells #[.string t217, .slice Ao69 t218.length co69, .string t221] 26 (0, 0)) (by (with_reducible repeat (first | refine zaj ?_ _ | refine zan ?_ | refine zak ?_ _)); exact BK224.out) hb)
                     have n5_ := zaa.mk (zaU (g := gb233) (o := .cells #[.string (⟨#[]⟩ : ByteArray), .slice none 0 0, .string (⟨#[]⟩ : ByteArray)] 26 (0, 0)) (by (with_reducible repeat (first | refine zaj ?_ _ | refine zan ?_ | refine zak ?_ _)); exact BK233.out) hb)
                     have n6_ := zaa.mk (zaL (by repeat (first | (with_reducible first | exact HB.out | apply zaf | apply zad | apply zae | refine zah ?_ GE195.out | refine zah ?_ GE224.out | refine zah ?_ GE233.out) | exact HB.out)) hb)
                     clear HO_10
                     clear HO220
                     clear BK195
                     clear BK224
                     clear BK233
                     clear HB
                     have HO_10 := n0_
                     have HO220 := n1_
                     have HO229 := n2_
                     have BK195 := n3_
                     have BK224 := n4_
                     have BK233 := n5_
                     have HB := n6_
                     clear n0_ n1_ n2_ n3_ n4_ n5_ n6_
                     (try clear hb)
                     (try clear hb2)
                     (try clear hk)
                     (try clear hi)
                     (try clear ho0)
                     refine hK.out _ _ ⟨(zai BK195.out 0).trans rfl, (zai BK195.out 1).trans rfl, (zai BK195.out 2).trans rfl, (zai BK195.out 3).trans rfl, HS4_, HS5_⟩ (fun hHeld => ?_)
                     clear hK K
                     refine norm_ (a' := ?_) ?_ ?_
                     rotate_left
                     ·
                      show Act.put _ (some 181) _ = _
                      simp only [Act.put, List.setIfInBounds_toArray, List.set_cons_zero, List.set_cons_succ, i64_w, i32_w]
                      rfl
                     refine pure_ (i := 9) (N := some 172) (v := ?_) (a' := ?_) #[true, true, true, true, true, true, true, true, true, true, false, false, false, true, false, false, false] rfl rfl (zaB HT_.out k9) (fun _ _ _ h => h) (Or.inl ⟨by rfl, ?_⟩) ?_ ?_
                     rotate_left
                     ·
                      intro w'
                      go_simp
                      with_reducible rfl
                     rotate_left
                     ·
                      simp only [Act.put, List.setIfInBounds_toArray, List.set_cons_zero, List.set_cons_succ, i64_w, i32_w]
                      rfl
                     refine pure_ (i := 10) (N := some 182) (v := ?_) (a' := ?_) #[true, true, true, true, true, true, true, true, true, true, true, false, false, true, false, false, false] rfl rfl (zaB HT_.out k9) (fun _ _ _ h => h) (Or.inl ⟨by rfl, ?_⟩) ?_ ?_
                     rotate_left
                     ·
                      intro w'
                      go_simp
                      with_reducible rfl
                     rotate_left
                     ·
                      simp only [Act.put, List.setIfInBounds_toArray, List.set_cons_zero, List.set_cons_succ, i64_w, i32_w]
                      rfl
                     refine pure_ (i := 11) (N := some 183) (v := ?_) (a' := ?_) #[true, true, true, true, true, true, true, true, true, true, true, true, false, true, false, false, false] rfl rfl (zaB HT_.out k9) (fun _ _ _ h => h) (Or.inl ⟨by rfl, ?_⟩) ?_ ?_
                     rotate_left
                     ·
                      intro w'
                      go_simp
                      with_reducible rfl
                     rotate_left
                     ·
                      simp only [Act.put, List.setIfInBounds_toArray, List.set_cons_zero, List.set_cons_succ, i64_w, i32_w]
                      rfl
                     refine pure_ (i := 12) (N := some 184) (v := ?_) (a' := ?_) #[true, true, true, true, true, true, true, true, true, true, true, true, true, true, false, false, false] rfl rfl (zaB HT_.out k9) (fun _ _ _ h => h) (Or.inl ⟨by rfl, ?_⟩) ?_ ?_
                     rotate_left
                     ·
                      intro w'
                      go_simp
                      with_reducible rfl
                     rotate_left
                     ·
                      simp only [Act.put, List.setIfInBounds_toArray, List.set_cons_zero, List.set_cons_succ, i64_w, i32_w]
                      rfl
                     exact norm_ (by simp only [zda, Act.put, List.setIfInBounds_toArray, List.set_cons_zero, List.set_cons_succ]) (hCont (v228, gb233) _ ⟨hHeld, (by (with_reducible repeat (first | apply Kd.zaz | apply Kd.zaG | apply Kd.zaJ)); exact Kd.zaR HO220.out (fun _ hk => hk.2)), (by (with_reducible repeat (first | apply Kd.zaz | apply Kd.zaG | apply Kd.zaJ)); exact Kd.zaR HO229.out (fun _ hk => hk.2)), (by (with_reducible repeat (first | apply Kd.zaz | apply Kd.zaG | apply Kd.zaJ)); exact HO_10.out), (by (with_reducible repeat (first | refine zaj ?_ _ | refine zan ?_ | refine zak ?_ _)); exact BK195.out), (by (with_reducible repeat (first | refine zaj ?_ _ | refine zan ?_ | refine zak ?_ _)); exact BK224.out), (by (with_reducible repeat (first | refine zaj ?_ _ | refine zan ?_ | refine zak ?_ _)); exact BK233.out), GW233.out, GE233.out, NB195_233.out, NB233_195.out, NB224_233.out, NB233_224.out, (by repeat (first | (with_reducible first | exact HB.out | apply zaf | apply zad | apply zae | refine zah ?_ GE195.out | refine zah ?_ GE224.out | refine zah ?_ GE233.out) | exact HB.out))⟩)
                   rintro ⟨v228, gb233⟩ w76 ⟨hS_, h0_, h1_, h2_, h3_, h4_, h5_, h6_, h7_, h8_, h9_, h10_, h11_, h12_⟩
                   have n0_ : zaa (Kd.R k35 35 w76 w.heap.size (fun k_ => some k_ ≠ (v228 : Value).ownBlock) (.slice Ao69 t218.length co69) t218) := ⟨h0_⟩
                   have n1_ : zaa (Kd.R k35 35 w76 w.heap.size (fun k_ => some k_ ≠ (.slice Ao69 t218.length co69 : Value).ownBlock) v228 t227) := ⟨h1_⟩
                   have n2_ : zaa (Kd.R k42 42 w76 w.heap.size (fun _ => True) (.slice (some ad207) t204.length co57) t204) := ⟨h2_⟩
                   have n3_ : zaa (w76.heap[gb195]? = some (.cells #[.string ((zab l0 t193).f0), .string ((zab l0 t193).f1), .slice A194_2 ((zab l0 t193).f2).length c194_2, .slice A194_3 ((zab l0 t193).f3).length c194_3] 45 (0, 0))) := ⟨h3_⟩
                   have n4_ : zaa (w76.heap[gb224]? = some (.cells #[.string t217, .slice Ao69 t218.length co69, .string t221] 26 (0, 0))) := ⟨h4_⟩
                   have n5_ : zaa (w76.heap[gb233]? = some (.cells #[.string (⟨#[]⟩ : ByteArray), .slice none 0 0, .string (⟨#[]⟩ : ByteArray)] 26 (0, 0))) := ⟨h5_⟩
                   have n6_ : zaa (w.heap.size ≤ gb233) := ⟨h6_⟩
                   have n7_ : zaa (w.heap.size ≤ gb233) := ⟨h7_⟩
                   have n8_ : zaa (gb195 ≠ gb233) := ⟨h8_⟩
                   have n9_ : zaa (gb233 ≠ gb195) := ⟨h9_⟩
                   have n10_ : zaa (gb224 ≠ gb233) := ⟨h10_⟩
                   have n11_ : zaa (gb233 ≠ gb224) := ⟨h11_⟩
                   have n12_ : zaa (Below w.heap.size w w76) := ⟨h12_⟩
                   clear HO_10
                   clear HO220
                   clear BK195
                   clear BK224
                   clear HB
                   clear h0_ h1_ h2_ h3_ h4_ h5_ h6_ h7_ h8_ h9_ h10_ h11_ h12_
                   have HO220 := n0_
                   have HO229 := n1_
                   have HO_10 := n2_
                   have BK195 := n3_
                   have BK224 := n4_
                   have BK233 := n5_
                   have GW233 := n6_
                   have GE233 := n7_
                   have NB195_233 := n8_
                   have NB233_195 := n9_
                   have NB224_233 := n10_
                   have NB233_224 := n11_
                   have HB := n12_
                   clear n0_ n1_ n2_ n3_ n4_ n5_ n6_ n7_ n8_ n9_ n10_ n11_ n12_
                   have hHeld : w76.cell? ⟨gb195, 0, none⟩ = some (.string ((zab l0 t193).f0)) ∧ w76.cell? ⟨gb195, 1, none⟩ = some (.string ((zab l0 t193).f1)) ∧ w76.cell? ⟨gb195, 2, none⟩ = some (.slice A194_2 ((zab l0 t193).f2).length c194_2) ∧ w76.cell? ⟨gb195, 3, none⟩ = some (.slice A194_3 ((zab l0 t193).f3).length c194_3) ∧ w76.cell? (ad207.add ((x11_4).toNat * 2)) = some (.string ((zaI t204 x11_4).f0)) ∧ w76.cell? ⟨(ad207.add ((x11_4).toNat * 2)).block, (ad207.add ((x11_4).toNat * 2)).off + 1, none⟩ = some (.int .i64 ((zaI t204 x11_4).f1)) := hS_
                   obtain ⟨Ao78, co78, eo78⟩ := Kd.za6 HO229.out
                   (first | subst eo78 | (injection eo78 with f1_ f2_ f3_; have f4_ := f1_.symm; have f5_ := f3_.symm; clear f1_ f2_ f3_; subst f4_; subst f5_))
                   refine norm_ (a' := ?_) ?_ ?_
                   rotate_left
                   ·
                    simp only [zda, Act.put, List.setIfInBounds_toArray, List.set_cons_zero, List.set_cons_succ]
                    rfl
                   refine one_ (i := 14) (N := none) #[true, true, true, true, true, true, true, true, true, true, true, true, true, true, true, false, false] rfl rfl (zdb HT_.out k9) d9 (fun K hK => ?_)
                   have hs77 : w76.cell? ⟨gb233, 0, none⟩ = some (.string (⟨#[]⟩ : ByteArray)) := (zai BK233.out 0).trans rfl
                   have hfs77 := zal BK233.out 0
                   have hns77_0 := NB195_233.out
                   have hns77_1 := NB224_233.out
                   have hms77_0 := NB233_195.out
                   have hms77_1 := NB233_224.out
                   have hs79 : w76.cell? ⟨gb233, 1, none⟩ = some (.slice none 0 0) := (zai BK233.out 1).trans rfl
                   have hfs79 := zal BK233.out 1
                   have hns79_0 := NB195_233.out
                   have hns79_1 := NB224_233.out
                   have hms79_0 := NB233_195.out
                   have hms79_1 := NB233_224.out
                   have hs80 : w76.cell? ⟨gb233, 2, none⟩ = some (.string (⟨#[]⟩ : ByteArray)) := (zai BK233.out 2).trans rfl
                   have hfs80 := zal BK233.out 2
                   have hns80_0 := NB195_233.out
                   have hns80_1 := NB224_233.out
                   have hms80_0 := NB233_195.out
                   have hms80_1 := NB233_224.out
                   refine skip_ (w1 := ?_) (by rfl) rfl ?_ ?_
                   rotate_left
                   ·
                    go_simp
                    rfl
                   refine hK.out _ _ ⟨((cell_far (p := ⟨gb233, _, none⟩) NB195_233.out _).trans (((cell_far (p := ⟨gb233, _, none⟩) NB195_233.out _).trans (((cell_far (p := ⟨gb233, _, none⟩) NB195_233.out _).trans (hHeld.1)))))), ((cell_far (p := ⟨gb233, _, none⟩) NB195_233.out _).trans (((cell_far (p := ⟨gb233, _, none⟩) NB195_233.out _).trans (((cell_far (p := ⟨gb233, _, none⟩) NB195_233.out _).trans (hHeld.2.1)))))), ((cell_far (p := ⟨gb233, _, none⟩) NB195_233.out _).trans (((cell_far (p := ⟨gb233, _, none⟩) NB195_233.out _).trans (((cell_far (p := ⟨gb233, _, none⟩) NB195_233.out _).trans (hHeld.2.2.1)))))), ((cell_far (p := ⟨gb233, _, none⟩) NB195_233.out _).trans (((cell_far (p := ⟨gb233, _, none⟩) NB195_233.out _).trans (((cell_far (p := ⟨gb233, _, none⟩) NB195_233.out _).trans (hHeld.2.2.2.1)))))), ((cell_far (p := ⟨gb233, _, none⟩) (by first | exact Kd.zaN (Kd.R_ne HO_10.out BK233.out d9) | (rw [add_block]; exact Kd.zaN (Kd.R_ne HO_10.out BK233.out d9)) | (show (Addr.add _ _).block ≠ _; rw [add_block]; exact Kd.zaN (Kd.R_ne HO_10.out BK233.out d9)) | (dsimp only; exact Kd.zaN (Kd.R_ne HO_10.out BK233.out d9))) _).trans (((cell_far (p := ⟨gb233, _, none⟩) (by first | exact Kd.zaN (Kd.R_ne HO_10.out BK233.out d9) | (rw [add_block]; exact Kd.zaN (Kd.R_ne HO_10.out BK233.out d9)) | (show (Addr.add _ _).block ≠ _; rw [add_block]; exact Kd.zaN (Kd.R_ne HO_10.out BK233.out d9)) | (dsimp only; exact Kd.zaN (Kd.R_ne HO_10.out BK233.out d9))) _).trans (((cell_far (p := ⟨gb233, _, none⟩) (by first | exact Kd.zaN (Kd.R_ne HO_10.out BK233.out d9) | (rw [add_block]; exact Kd.zaN (Kd.R_ne HO_10.out BK233.out d9)) | (show (Addr.add _ _).block ≠ _; rw [add_block]; exact Kd.zaN (Kd.R_ne HO_10.out BK233.out d9)) | (dsimp only; exact Kd.zaN (Kd.R_ne HO_10.out BK233.out d9))) _).trans (hHeld.2.2.2.2.1)))))), ((cell_far (p := ⟨gb233, _, none⟩) (by first | exact Kd.zaN (Kd.R_ne HO_10.out BK233.out d9) | (rw [add_block]; exact Kd.zaN (Kd.R_ne HO_10.out BK233.out d9)) | (show (Addr.add _ _).block ≠ _; rw [add_block]; exact Kd.zaN (Kd.R_ne HO_10.out BK233.out d9)) | (dsimp only; exact Kd.zaN (Kd.R_ne HO_10.out BK233.out d9))) _).trans (((cell_far (p := ⟨gb233, _, none⟩) (by first | exact Kd.zaN (Kd.R_ne HO_10.out BK233.out d9) | (rw [add_block]; exact Kd.zaN (Kd.R_ne HO_10.out BK233.out d9)) | (show (Addr.add _ _).block ≠ _; rw [add_block]; exact Kd.zaN (Kd.R_ne HO_10.out BK233.out d9)) | (dsimp only; exact Kd.zaN (Kd.R_ne HO_10.out BK233.out d9))) _).trans (((cell_far (p := ⟨gb233, _, none⟩) (by first | exact Kd.zaN (Kd.R_ne HO_10.out BK233.out d9) | (rw [add_block]; exact Kd.zaN (Kd.R_ne HO_10.out BK233.out d9)) | (show (Addr.add _ _).block ≠ _; rw [add_block]; exact Kd.zaN (Kd.R_ne HO_10.out BK233.out d9)) | (dsimp only; exact Kd.zaN (Kd.R_ne HO_10.out BK233.out d9))) _).trans (hHeld.2.2.2.2.2))))))⟩ (fun hHeld => ?_)
                   clear hK K
                   refine pure_ (i := 15) (N := some 22) (v := ?_) (a' := ?_) #[true, true, true, true, true, true, true, true, true, true, true, true, true, true, true, true, false] rfl rfl (zaB HT_.out k9) (fun _ _ _ h => h) (Or.inl ⟨by rfl, ?_⟩) ?_ ?_
                   rotate_left
                   ·
                    intro w'
                    go_simp
                    with_reducible rfl
                   rotate_left
                   ·
                    simp only [Act.put, List.setIfInBounds_toArray, List.set_cons_zero, List.set_cons_succ, i64_w, i32_w]
                    rfl
                   refine pure_ (i := 16) (N := some 23) (v := ?_) (a' := ?_) #[true, true, true, true, true, true, true, true, true, true, true, true, true, true, true, true, true] rfl rfl (zaB HT_.out k9) (fun _ _ _ h => h) (Or.inl ⟨by rfl, ?_⟩) ?_ ?_
                   rotate_left
                   ·
                    intro w'
                    go_simp
                    with_reducible rfl
                   rotate_left
                   ·
                    simp only [Act.put, List.setIfInBounds_toArray, List.set_cons_zero, List.set_cons_succ, i64_w, i32_w]
                    rfl
                   refine done_ (zcY HT_.out k9) ?_
                   go_upto_region 22 with (fail)
                   go_cut [226] (fun v226 wc => ∃ (kq : Nat) (x226_55 : Bool), v226 = .bool x226_55 ∧ zaa (chaperonlaw05_TableAbove.j4 kq l0 t189 t204 x11_4 x226_55 ((zab l0 t193).f0) ((zab l0 t193).f1) ((zab l0 t193).f2) ((zab l0 t193).f3) t217 t218 t221 t226 t227 t230 = some r) ∧ zaa (kq ≤ k4) ∧ zaa (Kd.R k42 42 wc w.heap.size (fun _ => True) (.slice (some ad207) t204.length co57) t204) ∧ zaa (Kd.R k35 35 wc w.heap.size (fun k_ => some k_ ≠ ((.slice Ao78 t227.length co78) : Value).ownBlock) (.slice Ao69 t218.length co69) t218) ∧ zaa (Kd.R k35 35 wc w.heap.size (fun k_ => some k_ ≠ ((.slice Ao69 t218.length co69) : Value).ownBlock) (.slice Ao78 t227.length co78) t227) ∧ zaa (wc.heap[gb195]? = some (.cells #[.string ((zab l0 t193).f0), .string ((zab l0 t193).f1), (.slice A194_2 ((zab l0 t193).f2).length c194_2), (.slice A194_3 ((zab l0 t193).f3).length c194_3)] 45 (0, 0))) ∧ zaa (wc.heap[gb224]? = some (.cells #[.string t217, (.slice Ao69 t218.length co69), .string t221] 26 (0, 0))) ∧ zaa (wc.heap[gb233]? = some (.cells #[.string t226, (.slice Ao78 t227.length co78), .string t230] 26 (0, 0))) ∧ zaa (Below w.heap.size w wc))
                   case first =>
                    have H := HC56.out
                    clear HC56
                    by_cases c81 : t209 = true
                    ·
                     subst c81
                     have H1 : (if t208 = ((zaI t204 x11_4).f1) then (if t211.toList = t214.toList then (if (t212 != t215) = true then (none) else (if (t223 != t232) = true then (none) else (if t221.toList = t230.toList then (chaperonlaw05_TableAbove.j4 k4 l0 t189 t204 x11_4 ((t218.length : Int) != (t227.length : Int)) ((zab l0 t193).f0) ((zab l0 t193).f1) ((zab l0 t193).f2) ((zab l0 t193).f3) t217 t218 t221 t226 t227 t230) else (none)))) else (none)) else (none)) = some r := by rw [if_pos rfl] at H; exact H
                     clear H
                     have H := H1
                     clear H1
                     by_cases c82 : t208 = ((zaI t204 x11_4).f1)
                     ·
                      rw [if_pos c82] at H
                      have c82b0 : (t208 == ((zaI t204 x11_4).f1)) = true := beq_iff_eq.mpr c82
                      have c82b1 : (t208 != ((zaI t204 x11_4).f1)) = false := bne_eq_false_iff_eq.mpr c82
                      clear c82
                      (first | rw [c82b0] | (simp only [i64_w, i32_w]; rw [c82b0]) | skip)
                      by_cases c83 : t211.toList = t214.toList
                      ·
                       rw [if_pos c83] at H
                       have c83b0 : (t211.toList == t214.toList) = true := beq_iff_eq.mpr c83
                       have c83b1 : (t211.toList != t214.toList) = false := bne_eq_false_iff_eq.mpr c83
                       clear c83
                       by_cases c84 : (t212 != t215) = true
                       ·
                        rw [if_pos c84] at H
                        exact absurd H s9
                       ·
                        rw [if_neg c84] at H
                        have c84b0 : (t212 != t215) = false := by simpa using c84
                        (try (have c84b1 : decide (t212 = t215) = true := by simpa using c84))
                        (try (have c84b2 : (t212 == t215) = true := by simpa using c84))
                        clear c84
                        by_cases c85 : (t223 != t232) = true
                        ·
                         rw [if_pos c85] at H
                         exact absurd H s9
                        ·
                         rw [if_neg c85] at H
                         have c85b0 : (t223 != t232) = false := by simpa using c85
                         (try (have c85b1 : decide (t223 = t232) = true := by simpa using c85))
                         (try (have c85b2 : (t223 == t232) = true := by simpa using c85))
                         clear c85
                         by_cases c86 : t221.toList = t230.toList
                         ·
                          rw [if_pos c86] at H
                          have c86b0 : (t221.toList == t230.toList) = true := beq_iff_eq.mpr c86
                          have c86b1 : (t221.toList != t230.toList) = false := bne_eq_false_iff_eq.mpr c86
                          clear c86
                          as_aux_lemma =>
                           have H' := zaa.mk H
                           clear H
                           have p234 : 0 ≤ (x11_4 : Int) := of_decide_eq_true (by first | (with_reducible assumption) | assumption)
                           have q234 : x11_4 < (t204.length : Int) := of_decide_eq_true (by first | (with_reducible assumption) | assumption)
                           obtain ⟨ad234, e234, hx234_0, hx234_1⟩ := zcS (Kd.zbb HO_10.out).2.2 x11_4 p234 q234
                           obtain rfl : ad207 = ad234 := (by injection e234)
                           have hn234_0 : ad207.block ≠ gb233 := Kd.zaN (Kd.R_ne HO_10.out BK233.out d9)
                           have hn234_1 : ad207.block ≠ gb233 := Kd.zaN (Kd.R_ne HO_10.out BK233.out d9)
                           have hn234_2 : ad207.block ≠ gb233 := Kd.zaN (Kd.R_ne HO_10.out BK233.out d9)
                           replace hx234_0 := (cell_far (p := ⟨gb233, 0, none⟩) (by first | (rw [add_block]; exact hn234_0) | (show (Addr.add _ _).block ≠ _; rw [add_block]; exact hn234_0) | exact hn234_0) (.string t226)).trans hx234_0
                           replace hx234_1 := (cell_far (p := ⟨gb233, 0, none⟩) (by first | (rw [add_block]; exact hn234_0) | (show (Addr.add _ _).block ≠ _; rw [add_block]; exact hn234_0) | exact hn234_0) (.string t226)).trans hx234_1
                           replace hx234_0 := (cell_far (p := ⟨gb233, 1, none⟩) (by first | (rw [add_block]; exact hn234_1) | (show (Addr.add _ _).block ≠ _; rw [add_block]; exact hn234_1) | exact hn234_1) (.slice Ao78 t227.length co78)).trans hx234_0
                           replace hx234_1 := (cell_far (p := ⟨gb233, 1, none⟩) (by first | (rw [add_block]; exact hn234_1) | (show (Addr.add _ _).block ≠ _; rw [add_block]; exact hn234_1) | exact hn234_1) (.slice Ao78 t227.length co78)).trans hx234_1
                           replace hx234_0 := (cell_far (p := ⟨gb233, 2, none⟩) (by first | (rw [add_block]; exact hn234_2) | (show (Addr.add _ _).block ≠ _; rw [add_block]; exact hn234_2) | exact hn234_2) (.string t230)).trans hx234_0
                           replace hx234_1 := (cell_far (p := ⟨gb233, 2, none⟩) (by first | (rw [add_block]; exact hn234_2) | (show (Addr.add _ _).block ≠ _; rw [add_block]; exact hn234_2) | exact hn234_2) (.string t230)).trans hx234_1
                           clear hn234_0
                           clear hn234_1
                           clear hn234_2
                           replace p234 := eq_true p234
                           replace q234 := eq_true q234
                           have hnb87 := NB224_195.out
                           have hnc87 := NB195_224.out
                           have hnb88 := NB224_233.out
                           have hnc88 := NB233_224.out
                           have hcz89_0 : w76.cell? ⟨gb224, 0, none⟩ = some (.string t217) := (zai BK224.out 0).trans rfl
                           have hcz89_1 : w76.cell? ⟨gb224, 1, none⟩ = some (.slice Ao69 t218.length co69) := (zai BK224.out 1).trans rfl
                           have hcz89_2 : w76.cell? ⟨gb224, 2, none⟩ = some (.string t221) := (zai BK224.out 2).trans rfl
                           have hfz89_0 := zal BK224.out 0
                           have hfz89_1 := zal BK224.out 1
                           have hfz89_2 := zal BK224.out 2
                           have hnb90 := NB233_195.out
                           have hnc90 := NB195_233.out
                           have hcz91_0 : w76.cell? ⟨gb233, 0, none⟩ = some (.string (⟨#[]⟩ : ByteArray)) := (zai BK233.out 0).trans rfl
                           have hcz91_1 : w76.cell? ⟨gb233, 1, none⟩ = some (.slice none 0 0) := (zai BK233.out 1).trans rfl
                           have hcz91_2 : w76.cell? ⟨gb233, 2, none⟩ = some (.string (⟨#[]⟩ : ByteArray)) := (zai BK233.out 2).trans rfl
                           have hfz91_0 := zal BK233.out 0
                           have hfz91_1 := zal BK233.out 1
                           have hfz91_2 := zal BK233.out 2
                           go_wp2
                           go_meet
                           case rel => exact ⟨_, (((t218.length : Int) != (t227.length : Int))), (by first | rfl | (simp; done) | (simp [*]; done) | (simp [bne]; done)), H', ⟨by have := HJ3.out; have := HJ18.out; have := HJ32.out; have := HK4.out; first | omega | exact Nat.le_refl _⟩, ⟨by (with_reducible repeat (first | apply Kd.zaz | apply Kd.zaG | apply Kd.zaJ)); exact Kd.zaR (Kd.R_far (p := ⟨gb233, 2, none⟩) (Kd.R_far (p := ⟨gb233, 1, none⟩) (Kd.R_far (p := ⟨gb233, 0, none⟩) (Kd.zb4 HO_10.out BK233.out d9) (fun _ hk => hk.2) (.string t226)) (fun _ hk => hk.2) (.slice Ao78 t227.length co78)) (fun _ hk => hk.2) (.string t230)) (fun _ hk => trivial)⟩, ⟨by (with_reducible repeat (first | apply Kd.zaz | apply Kd.zaG | apply Kd.zaJ)); exact Kd.zaR (Kd.R_far (p := ⟨gb233, 2, none⟩) (Kd.R_far (p := ⟨gb233, 1, none⟩) (Kd.R_far (p := ⟨gb233, 0, none⟩) (Kd.zb4 HO220.out BK233.out d9) (fun _ hk => hk.2) (.string t226)) (fun _ hk => hk.2) (.slice Ao78 t227.length co78)) (fun _ hk => hk.2) (.string t230)) (fun _ hk => hk.1)⟩, ⟨by (with_reducible repeat (first | apply Kd.zaz | apply Kd.zaG | apply Kd.zaJ)); exact Kd.zaR (Kd.R_far (p := ⟨gb233, 2, none⟩) (Kd.R_far (p := ⟨gb233, 1, none⟩) (Kd.R_far (p := ⟨gb233, 0, none⟩) (Kd.zb4 HO229.out BK233.out d9) (fun _ hk => hk.2) (.string t226)) (fun _ hk => hk.2) (.slice Ao78 t227.length co78)) (fun _ hk => hk.2) (.string t230)) (fun _ hk => hk.1)⟩, ⟨by (with_reducible repeat (first | refine zaj ?_ _ | refine zan ?_ | refine zak ?_ _)); refine zb5 ?_ NB195_233.out _; (with_reducible repeat (first | refine zaj ?_ _ | refine zan ?_ | refine zak ?_ _)); refine zb5 ?_ NB195_233.out _; (with_reducible repeat (first | refine zaj ?_ _ | refine zan ?_ | refine zak ?_ _)); refine zb5 ?_ NB195_233.out _; (with_reducible repeat (first | refine zaj ?_ _ | refine zan ?_ | refine zak ?_ _)); exact BK195.out⟩, ⟨by (with_reducible repeat (first | refine zaj ?_ _ | refine zan ?_ | refine zak ?_ _)); refine zb5 ?_ NB224_233.out _; (with_reducible repeat (first | refine zaj ?_ _ | refine zan ?_ | refine zak ?_ _)); refine zb5 ?_ NB224_233.out _; (with_reducible repeat (first | refine zaj ?_ _ | refine zan ?_ | refine zak ?_ _)); refine zb5 ?_ NB224_233.out _; (with_reducible repeat (first | refine zaj ?_ _ | refine zan ?_ | refine zak ?_ _)); exact BK224.out⟩, ⟨by (with_reducible repeat (first | refine zaj ?_ _ | refine zan ?_ | refine zak ?_ _)); refine zay (cs := #[.string t226, .slice Ao78 t227.length co78, .string (⟨#[]⟩ : ByteArray)]) ?_ 2 _ rfl; (with_reducible repeat (first | refine zaj ?_ _ | refine zan ?_ | refine zak ?_ _)); refine zay (cs := #[.string t226, .slice none 0 0, .string (⟨#[]⟩ : ByteArray)]) ?_ 1 _ rfl; (with_reducible repeat (first | refine zaj ?_ _ | refine zan ?_ | refine zak ?_ _)); refine zay (cs := #[.string (⟨#[]⟩ : ByteArray), .slice none 0 0, .string (⟨#[]⟩ : ByteArray)]) ?_ 0 _ rfl; (with_reducible repeat (first | refine zaj ?_ _ | refine zan ?_ | refine zak ?_ _)); exact BK233.out⟩, ⟨by repeat (first | (with_reducible first | exact HB.out | apply zaf | apply zad | apply zae | refine zah ?_ GE195.out | refine zah ?_ GE224.out | refine zah ?_ GE233.out) | exact HB.out)⟩⟩
                         ·
                          rw [if_neg c86] at H
                          exact absurd H s9
                      ·
                       rw [if_neg c83] at H
                       exact absurd H s9
                     ·
                      rw [if_neg c82] at H
                      exact absurd H s9
                    ·
                     replace c81 := Bool.eq_false_iff.mpr c81
                     subst c81
                     have H1 : (none) = some r := by rw [if_neg (show ¬ (false = true) by decide)] at H; exact H
                     clear H
                     have H := H1
                     clear H1
                     exact absurd H s9
                   case rest =>
                    clear HC56
                    try clear c1
                    try clear p2
                    try clear q2
                    try clear hx2
                    try clear c7
                    try clear c8
                    try clear c9
                    try clear c19
                    try clear p22
                    try clear q22
                    try clear hx22
                    try clear p23
                    try clear q23
                    try clear hx23
                    try clear c81
                    try clear c82
                    try clear c82b0
                    try clear c82b1
                    try clear c83
                    try clear c83b0
                    try clear c83b1
                    try clear c84
                    try clear c84b0
                    try clear c84b1
                    try clear c84b2
                    try clear c85
                    try clear c85b0
                    try clear c85b1
                    try clear c85b2
                    try clear c86
                    try clear c86b0
                    try clear c86b1
                    try clear c87
                    try clear c88
                    try clear c90
                    try clear hcz89_0
                    try clear hcz89_1
                    try clear hcz89_2
                    try clear hcz91_0
                    try clear hcz91_1
                    try clear hcz91_2
                    try clear hfz89_0
                    try clear hfz89_1
                    try clear hfz89_2
                    try clear hfz91_0
                    try clear hfz91_1
                    try clear hfz91_2
                    try clear hx225_0
                    try clear hx225_1
                    try clear hx234_0
                    try clear hx234_1
                    try clear p225
                    try clear p234
                    try clear q225
                    try clear q234
                    obtain ⟨kq, x226_55, rfl, HA, HJ55, HO_10, HO_225001, HO_234001, BK195, BK224, BK233, HB⟩ := hcut
                    cases kq with
                    | zero => exact absurd HA.out (by simp [chaperonlaw05_TableAbove.j4])
                    | succ kj55 =>
                     have H := HA.out
                     clear HA
                     simp only [chaperonlaw05_TableAbove.j4] at H
                     by_cases c92 : x226_55 = true
                     ·
                      subst c92
                      have H1 : (none) = some r := by rw [if_pos rfl] at H; exact H
                      clear H
                      have H := H1
                      clear H1
                      exact absurd H s9
                     ·
                      replace c92 := Bool.eq_false_iff.mpr c92
                      subst c92
                      have H1 : (chaperonlaw05_TableAbove.l1 kj55 l0 t189 t204 x11_4 0 ((zab l0 t193).f0) ((zab l0 t193).f1) ((zab l0 t193).f2) ((zab l0 t193).f3) t217 t218 t221 t226 t227 t230) = some r := by rw [if_neg (show ¬ (false = true) by decide)] at H; exact H
                      clear H
                      have H := H1
                      clear H1
                      have H' := zaa.mk H
                      clear H
                      go_wp2
                      go_loopg [24] kj55 (fun kq v24 w' => ∃ (x24_6 : Int), v24 = .int .i64 x24_6 ∧ zaa (chaperonlaw05_TableAbove.l1 kq l0 t189 t204 x11_4 x24_6 ((zab l0 t193).f0) ((zab l0 t193).f1) ((zab l0 t193).f2) ((zab l0 t193).f3) t217 t218 t221 t226 t227 t230 = some r) ∧ zaa (kq ≤ kj55) ∧ zaa (Kd.R k42 42 w' w.heap.size (fun _ => True) (.slice (some ad207) t204.length co57) t204) ∧ zaa (Kd.R k35 35 w' w.heap.size (fun k_ => some k_ ≠ ((.slice Ao78 t227.length co78) : Value).ownBlock) (.slice Ao69 t218.length co69) t218) ∧ zaa (Kd.R k35 35 w' w.heap.size (fun k_ => some k_ ≠ ((.slice Ao69 t218.length co69) : Value).ownBlock) (.slice Ao78 t227.length co78) t227) ∧ zaa (w'.heap[gb195]? = some (.cells #[.string ((zab l0 t193).f0), .string ((zab l0 t193).f1), (.slice A194_2 ((zab l0 t193).f2).length c194_2), (.slice A194_3 ((zab l0 t193).f3).length c194_3)] 45 (0, 0))) ∧ zaa (w'.heap[gb224]? = some (.cells #[.string t217, (.slice Ao69 t218.length co69), .string t221] 26 (0, 0))) ∧ zaa (w'.heap[gb233]? = some (.cells #[.string t226, (.slice Ao78 t227.length co78), .string t230] 26 (0, 0))) ∧ zaa (Below w.heap.size w w'))
                      case atStart => exact ⟨(0), (by first | rfl | (simp; done) | (simp [*]; done)), H', ⟨Nat.le_refl _⟩, ⟨by (with_reducible repeat (first | apply Kd.zaz | apply Kd.zaG | apply Kd.zaJ)); exact HO_10.out⟩, ⟨by (with_reducible repeat (first | apply Kd.zaz | apply Kd.zaG | apply Kd.zaJ)); exact HO_225001.out⟩, ⟨by (with_reducible repeat (first | apply Kd.zaz | apply Kd.zaG | apply Kd.zaJ)); exact HO_234001.out⟩, ⟨by (with_reducible repeat (first | refine zaj ?_ _ | refine zan ?_ | refine zak ?_ _)); exact BK195.out⟩, ⟨by (with_reducible repeat (first | refine zaj ?_ _ | refine zan ?_ | refine zak ?_ _)); exact BK224.out⟩, ⟨by (with_reducible repeat (first | refine zaj ?_ _ | refine zan ?_ | refine zak ?_ _)); exact BK233.out⟩, ⟨by repeat (first | (with_reducible first | exact HB.out | apply zaf | apply zad | apply zae | refine zah ?_ GE195.out | refine zah ?_ GE224.out | refine zah ?_ GE233.out) | exact HB.out)⟩⟩
                      case round =>
                       clear H'
                       try clear c1
                       try clear p2
                       try clear q2
                       try clear hx2
                       try clear c7
                       try clear c8
                       try clear c9
                       try clear c19
                       try clear p22
                       try clear q22
                       try clear hx22
                       try clear p23
                       try clear q23
                       try clear hx23
                       try clear c81
                       try clear c82
                       try clear c82b0
                       try clear c82b1
                       try clear c83
                       try clear c83b0
                       try clear c83b1
                       try clear c84
                       try clear c84b0
                       try clear c84b1
                       try clear c84b2
                       try clear c85
                       try clear c85b0
                       try clear c85b1
                       try clear c85b2
                       try clear c86
                       try clear c86b0
                       try clear c86b1
                       try clear c87
                       try clear c88
                       try clear c90
                       try clear c92
                       try clear hcz89_0
                       try clear hcz89_1
                       try clear hcz89_2
                       try clear hcz91_0
                       try clear hcz91_1
                       try clear hcz91_2
                       try clear hfz89_0
                       try clear hfz89_1
                       try clear hfz89_2
                       try clear hfz91_0
                       try clear hfz91_1
                       try clear hfz91_2
                       try clear hx225_0
                       try clear hx225_1
                       try clear hx234_0
                       try clear hx234_1
                       try clear p2
                       try clear p22
                       try clear p225
                       try clear p23
                       try clear p234
                       try clear q2
                       try clear q22
                       try clear q225
                       try clear q23
                       try clear q234
                       obtain ⟨x24_6, rfl, HA, HK6, HO_10, HO_225001, HO_234001, BK195, BK224, BK233, HB⟩ := hrel
                       cases gk with
                       | zero => exact absurd HA.out (by simp [chaperonlaw05_TableAbove.l1])
                       | succ k6 =>
                        have H := HA.out
                        clear HA
                        simp only [chaperonlaw05_TableAbove.l1] at H
                        by_cases c93 : x24_6 < (t218.length : Int)
                        ·
                         rw [if_pos c93] at H
                         have c93b0 : decide (x24_6 < (t218.length : Int)) = true := decide_eq_true c93
                         clear c93
                         by_cases c94 : 0 ≤ x24_6
                         ·
                          rw [if_pos c94] at H
                          have c94b0 : decide (0 ≤ x24_6) = true := decide_eq_true c94
                          clear c94
                          by_cases c95 : x24_6 < (t227.length : Int)
                          ·
                           rw [if_pos c95] at H
                           have c95b0 : decide (x24_6 < (t227.length : Int)) = true := decide_eq_true c95
                           clear c95
                           by_cases c96 : ((zaE t218 x24_6).f1).toList = ((zaE t227 x24_6).f1).toList
                           ·
                            rw [if_pos c96] at H
                            have c96b0 : (((zaE t218 x24_6).f1).toList == ((zaE t227 x24_6).f1).toList) = true := beq_iff_eq.mpr c96
                            have c96b1 : (((zaE t218 x24_6).f1).toList != ((zaE t227 x24_6).f1).toList) = false := bne_eq_false_iff_eq.mpr c96
                            clear c96
                            as_aux_lemma =>
                             have H' := zaa.mk H
                             clear H
                             have hnb97 := NB224_195.out
                             have hnc97 := NB195_224.out
                             have hnb98 := NB224_233.out
                             have hnc98 := NB233_224.out
                             have hcz99_0 : wr.cell? ⟨gb224, 0, none⟩ = some (.string t217) := (zai BK224.out 0).trans rfl
                             have hcz99_1 : wr.cell? ⟨gb224, 1, none⟩ = some (.slice Ao69 t218.length co69) := (zai BK224.out 1).trans rfl
                             have hcz99_2 : wr.cell? ⟨gb224, 2, none⟩ = some (.string t221) := (zai BK224.out 2).trans rfl
                             have hfz99_0 := zal BK224.out 0
                             have hfz99_1 := zal BK224.out 1
                             have hfz99_2 := zal BK224.out 2
                             try go_wp2
                             have n0_ := zaa.mk (Kd.zaJ HO_10.out)
                             have n1_ := zaa.mk (Kd.zaJ HO_225001.out)
                             have n2_ := zaa.mk (Kd.zaJ HO_234001.out)
                             have n3_ := zaa.mk (zan BK195.out)
                             have n4_ := zaa.mk (zan BK224.out)
                             have n5_ := zaa.mk (zan BK233.out)
                             have n6_ := zaa.mk (zae HB.out)
                             clear HO_10
                             clear HO_225001
                             clear HO_234001
                             clear BK195
                             clear BK224
                             clear BK233
                             clear HB
                             have HO_10 := n0_
                             have HO_225001 := n1_
                             have HO_234001 := n2_
                             have BK195 := n3_
                             have BK224 := n4_
                             have BK233 := n5_
                             have HB := n6_
                             clear n0_ n1_ n2_ n3_ n4_ n5_ n6_
                             have p235 : 0 ≤ (x24_6 : Int) := of_decide_eq_true (by first | (with_reducible assumption) | assumption)
                             have q235 : x24_6 < (t218.length : Int) := of_decide_eq_true (by first | (with_reducible assumption) | assumption)
                             obtain ⟨ad235, e235, hx235_0, hx235_1⟩ := zb1 (Kd.zbb HO_225001.out).2.2 x24_6 p235 q235
                             cases e235
                             replace p235 := eq_true p235
                             replace q235 := eq_true q235
                             have p236 : 0 ≤ (x24_6 : Int) := of_decide_eq_true (by first | (with_reducible assumption) | assumption)
                             have q236 : x24_6 < (t227.length : Int) := of_decide_eq_true (by first | (with_reducible assumption) | assumption)
                             obtain ⟨ad236, e236, hx236_0, hx236_1⟩ := zb1 (Kd.zbb HO_234001.out).2.2 x24_6 p236 q236
                             cases e236
                             replace p236 := eq_true p236
                             replace q236 := eq_true q236
                             refine zdZ (n := 13) (S := fun w' => w'.cell? ⟨gb224, 0, none⟩ = some (.string t217) ∧ w'.cell? ⟨gb224, 1, none⟩ = some (.slice (some ad235) t218.length co69) ∧ w'.cell? ⟨gb224, 2, none⟩ = some (.string t221) ∧ w'.cell? ⟨gb233, 0, none⟩ = some (.string t226) ∧ w'.cell? ⟨gb233, 1, none⟩ = some (.slice (some ad236) t227.length co78) ∧ w'.cell? ⟨gb233, 2, none⟩ = some (.string t230) ∧ w'.cell? (ad235.add ((x24_6).toNat * 2)) = some (.string ((zaE t218 x24_6).f0)) ∧ w'.cell? ⟨(ad235.add ((x24_6).toNat * 2)).block, (ad235.add ((x24_6).toNat * 2)).off + 1, none⟩ = some (.string ((zaE t218 x24_6).f1)) ∧ w'.cell? (ad236.add ((x24_6).toNat * 2)) = some (.string ((zaE t227 x24_6).f0)) ∧ w'.cell? ⟨(ad236.add ((x24_6).toNat * 2)).block, (ad236.add ((x24_6).toNat * 2)).off + 1, none⟩ = some (.string ((zaE t227 x24_6).f1))) (ds := []) #[false, false, false, false, false, false, false, false, false, false, false, false, false] k9 rfl rfl ⟨(zai BK224.out 0).trans rfl, (zai BK224.out 1).trans rfl, (zai BK224.out 2).trans rfl, (zai BK233.out 0).trans rfl, (zai BK233.out 1).trans rfl, (zai BK233.out 2).trans rfl, hx235_0, hx235_1, hx236_0, hx236_1⟩ (fun hHeld => ?_); refine zce chaperonlaw05_TableAbove.tab27 chaperonlaw05_TableAbove.bits27 (fun HT_ HW_ => ?_)
                             generalize wr.drew = w100 at HO_10 HO_225001 HO_234001 BK195 BK224 BK233 HB hx235_0 hx235_1 hx236_0 hx236_1 hHeld ⊢
                             refine pure_ (i := 0) (N := some 234) (v := ?_) (a' := ?_) #[true, false, false, false, false, false, false, false, false, false, false, false, false] rfl rfl (zaB HT_.out k9) (fun _ _ _ h => h) (Or.inl ⟨by rfl, ?_⟩) ?_ ?_
                             rotate_left
                             ·
                              intro w'
                              go_simp
                              with_reducible rfl
                             rotate_left
                             ·
                              simp only [Act.put, List.setIfInBounds_toArray, List.set_cons_zero, List.set_cons_succ, i64_w, i32_w]
                              rfl
                             refine pure_ (i := 2) (N := some 236) (v := ?_) (a' := ?_) #[true, false, true, false, false, false, false, false, false, false, false, false, false] rfl rfl (zaB HT_.out k9) (fun _ _ _ h => h) (Or.inl ⟨by rfl, ?_⟩) ?_ ?_
                             rotate_left
                             ·
                              intro w'
                              go_simp
                              with_reducible rfl
                             rotate_left
                             ·
                              simp only [Act.put, List.setIfInBounds_toArray, List.set_cons_zero, List.set_cons_succ, i64_w, i32_w]
                              rfl
                             refine pure_ (i := 6) (N := some 240) (v := ?_) (a' := ?_) #[true, false, true, false, false, false, true, false, false, false, false, false, false] rfl rfl (zaB HT_.out k9) (fun _ _ _ h => h) (Or.inl ⟨by rfl, ?_⟩) ?_ ?_
                             rotate_left
                             ·
                              intro w'
                              go_simp
                              with_reducible rfl
                             rotate_left
                             ·
                              simp only [Act.put, List.setIfInBounds_toArray, List.set_cons_zero, List.set_cons_succ, i64_w, i32_w]
                              rfl
                             refine pure_ (i := 8) (N := some 242) (v := ?_) (a' := ?_) #[true, false, true, false, false, false, true, false, true, false, false, false, false] rfl rfl (zaB HT_.out k9) (fun _ _ _ h => h) (Or.inl ⟨by rfl, ?_⟩) ?_ ?_
                             rotate_left
                             ·
                              intro w'
                              go_simp
                              with_reducible rfl
                             rotate_left
                             ·
                              simp only [Act.put, List.setIfInBounds_toArray, List.set_cons_zero, List.set_cons_succ, i64_w, i32_w]
                              rfl
                             refine take_ (i := 1) (N := some 235) (v := ?_) (a' := ?_) #[true, true, true, false, false, false, true, false, true, false, false, false, false] rfl rfl (zbp HT_.out HW_.out k9) (fun _ _ _ h => h) (Or.inl ⟨by rfl, ?_⟩) hHeld ?_ ?_
                             rotate_left
                             ·
                              rintro w' ⟨s0, s1, s2, s3, s4, s5, s6, s7, s8, s9⟩
                              go_simp
                              with_reducible rfl
                             rotate_left
                             ·
                              simp only [Act.put, List.setIfInBounds_toArray, List.set_cons_zero, List.set_cons_succ, i64_w, i32_w]
                              rfl
                             refine pure_ (i := 3) (N := some 237) (v := ?_) (a' := ?_) #[true, true, true, true, false, false, true, false, true, false, false, false, false] rfl rfl (zaB HT_.out k9) (fun _ _ _ h => h) (Or.inl ⟨by rfl, ?_⟩) ?_ ?_
                             rotate_left
                             ·
                              intro w'
                              go_simp
                              with_reducible rfl
                             rotate_left
                             ·
                              simp only [Act.put, List.setIfInBounds_toArray, List.set_cons_zero, List.set_cons_succ, i64_w, i32_w]
                              rfl
                             refine pure_ (i := 4) (N := some 238) (v := ?_) (a' := ?_) #[true, true, true, true, true, false, true, false, true, false, false, false, false] rfl rfl (zaB HT_.out k9) (fun _ _ _ h => h) (Or.inl ⟨by rfl, ?_⟩) ?_ ?_
                             rotate_left
                             ·
                              intro w'
                              go_simp
                              with_reducible rfl
                             rotate_left
                             ·
                              simp only [Act.put, List.setIfInBounds_toArray, List.set_cons_zero, List.set_cons_succ, i64_w, i32_w]
                              rfl
                             refine take_ (i := 5) (N := some 239) (v := ?_) (a' := ?_) #[true, true, true, true, true, true, true, false, true, false, false, false, false] rfl rfl (zbp HT_.out HW_.out k9) (fun _ _ _ h => h) (Or.inl ⟨by rfl, ?_⟩) hHeld ?_ ?_
                             rotate_left
                             ·
                              rintro w' ⟨s0, s1, s2, s3, s4, s5, s6, s7, s8, s9⟩
                              go_simp
                              with_reducible rfl
                             rotate_left
                             ·
                              simp only [Act.put, List.setIfInBounds_toArray, List.set_cons_zero, List.set_cons_succ, i64_w, i32_w]
                              rfl
                             refine take_ (i := 7) (N := some 241) (v := ?_) (a' := ?_) #[true, true, true, true, true, true, true, true, true, false, false, false, false] rfl rfl (zbp HT_.out HW_.out k9) (fun _ _ _ h => h) (Or.inl ⟨by rfl, ?_⟩) hHeld ?_ ?_
                             rotate_left
                             ·
                              rintro w' ⟨s0, s1, s2, s3, s4, s5, s6, s7, s8, s9⟩
                              go_simp
                              with_reducible rfl
                             rotate_left
                             ·
                              simp only [Act.put, List.setIfInBounds_toArray, List.set_cons_zero, List.set_cons_succ, i64_w, i32_w]
                              rfl
                             refine pure_ (i := 9) (N := some 243) (v := ?_) (a' := ?_) #[true, true, true, true, true, true, true, true, true, true, false, false, false] rfl rfl (zaB HT_.out k9) (fun _ _ _ h => h) (Or.inl ⟨by rfl, ?_⟩) ?_ ?_
                             rotate_left
                             ·
                              intro w'
                              go_simp
                              with_reducible rfl
                             rotate_left
                             ·
                              simp only [Act.put, List.setIfInBounds_toArray, List.set_cons_zero, List.set_cons_succ, i64_w, i32_w]
                              rfl
                             refine pure_ (i := 10) (N := some 244) (v := ?_) (a' := ?_) #[true, true, true, true, true, true, true, true, true, true, true, false, false] rfl rfl (zaB HT_.out k9) (fun _ _ _ h => h) (Or.inl ⟨by rfl, ?_⟩) ?_ ?_
                             rotate_left
                             ·
                              intro w'
                              go_simp
                              with_reducible rfl
                             rotate_left
                             ·
                              simp only [Act.put, List.setIfInBounds_toArray, List.set_cons_zero, List.set_cons_succ, i64_w, i32_w]
                              rfl
                             refine take_ (i := 11) (N := some 245) (v := ?_) (a' := ?_) #[true, true, true, true, true, true, true, true, true, true, true, true, false] rfl rfl (zbp HT_.out HW_.out k9) (fun _ _ _ h => h) (Or.inl ⟨by rfl, ?_⟩) hHeld ?_ ?_
                             rotate_left
                             ·
                              rintro w' ⟨s0, s1, s2, s3, s4, s5, s6, s7, s8, s9⟩
                              go_simp
                              with_reducible rfl
                             rotate_left
                             ·
                              simp only [Act.put, List.setIfInBounds_toArray, List.set_cons_zero, List.set_cons_succ, i64_w, i32_w]
                              rfl
                             refine pure_ (i := 12) (N := some 246) (v := ?_) (a' := ?_) #[true, true, true, true, true, true, true, true, true, true, true, true, true] rfl rfl (zaB HT_.out k9) (fun _ _ _ h => h) (Or.inl ⟨by rfl, ?_⟩) ?_ ?_
                             rotate_left
                             ·
                              intro w'
                              go_simp
                              with_reducible rfl
                             rotate_left
                             ·
                              simp only [Act.put, List.setIfInBounds_toArray, List.set_cons_zero, List.set_cons_succ, i64_w, i32_w]
                              rfl
                             refine done_ (zcY HT_.out k9) ?_
                             try go_wp2
                             go_roundg k6
                             case measure => have := HJ3.out; have := HJ18.out; have := HJ32.out; have := HK4.out; have := HJ55.out; have := HK6.out; omega
                             case rel => exact ⟨(wrap64 (x24_6 + 1)), (by first | rfl | (simp; done) | (simp [*]; done)), H', ⟨by have := HJ3.out; have := HJ18.out; have := HJ32.out; have := HK4.out; have := HJ55.out; have := HK6.out; omega⟩, ⟨by (with_reducible repeat (first | apply Kd.zaz | apply Kd.zaG | apply Kd.zaJ)); exact HO_10.out⟩, ⟨by (with_reducible repeat (first | apply Kd.zaz | apply Kd.zaG | apply Kd.zaJ)); exact HO_225001.out⟩, ⟨by (with_reducible repeat (first | apply Kd.zaz | apply Kd.zaG | apply Kd.zaJ)); exact HO_234001.out⟩, ⟨by (with_reducible repeat (first | refine zaj ?_ _ | refine zan ?_ | refine zak ?_ _)); exact BK195.out⟩, ⟨by (with_reducible repeat (first | refine zaj ?_ _ | refine zan ?_ | refine zak ?_ _)); exact BK224.out⟩, ⟨by (with_reducible repeat (first | refine zaj ?_ _ | refine zan ?_ | refine zak ?_ _)); exact BK233.out⟩, ⟨by repeat (first | (with_reducible first | exact HB.out | apply zaf | apply zad | apply zae | refine zah ?_ GE195.out | refine zah ?_ GE224.out | refine zah ?_ GE233.out) | exact HB.out)⟩⟩
                           ·
                            rw [if_neg c96] at H
                            exact absurd H s9
                          ·
                           rw [if_neg c95] at H
                           exact absurd H s9
                         ·
                          rw [if_neg c94] at H
                          exact absurd H s9
                        ·
                         rw [if_neg c93] at H
                         have c93b0 : decide (x24_6 < (t218.length : Int)) = false := decide_eq_false c93
                         clear c93
                         as_aux_lemma =>
                          have H' := zaa.mk H
                          clear H
                          have hnb101 := NB224_195.out
                          have hnc101 := NB195_224.out
                          have hnb102 := NB224_233.out
                          have hnc102 := NB233_224.out
                          have hcz103_0 : wr.cell? ⟨gb224, 0, none⟩ = some (.string t217) := (zai BK224.out 0).trans rfl
                          have hcz103_1 : wr.cell? ⟨gb224, 1, none⟩ = some (.slice Ao69 t218.length co69) := (zai BK224.out 1).trans rfl
                          have hcz103_2 : wr.cell? ⟨gb224, 2, none⟩ = some (.string t221) := (zai BK224.out 2).trans rfl
                          have hfz103_0 := zal BK224.out 0
                          have hfz103_1 := zal BK224.out 1
                          have hfz103_2 := zal BK224.out 2
                          go_wp2
                          go_roundg k6
                          case measure => have := HJ3.out; have := HJ18.out; have := HJ32.out; have := HK4.out; have := HJ55.out; have := HK6.out; omega
                          case rel => exact ⟨(wrap64 (x11_4 + 1)), (by first | rfl | (simp; done) | (simp [*]; done)), H', ⟨by have := HJ3.out; have := HJ18.out; have := HJ32.out; have := HK4.out; have := HJ55.out; have := HK6.out; omega⟩, ⟨by (with_reducible repeat (first | apply Kd.zaz | apply Kd.zaG | apply Kd.zaJ)); exact HO_10.out⟩, ⟨by (with_reducible repeat (first | refine zaj ?_ _ | refine zan ?_ | refine zak ?_ _)); exact BK195.out⟩, ⟨by repeat (first | (with_reducible first | exact HB.out | apply zaf | apply zad | apply zae | refine zah ?_ GE195.out | refine zah ?_ GE224.out | refine zah ?_ GE233.out) | exact HB.out)⟩⟩
                  ·
                   rw [if_neg c50] at H
                   exact absurd H s9
                 ·
                  rw [if_neg c49] at H
                  have c49b0 : decide (x11_4 < (t204.length : Int)) = false := decide_eq_false c49
                  clear c49
                  as_aux_lemma =>
                   obtain rfl := Option.some.inj H
                   obtain ⟨Ao104, co104, eo104⟩ := Kd.za6 HO_10.out
                   subst eo104
                   go_wp2
                   go_ret
                   exact ⟨by first | rfl | (simp [zaV, zaW] <;> rfl) | (simp only [← hji29]; first | rfl | (simp [zaV, zaW] <;> rfl)) | (simp [*, zaV, zaW] <;> rfl), by repeat (first | (with_reducible first | exact HB.out | apply zaf | apply zad | apply zae | refine zah ?_ GE195.out) | exact HB.out)⟩
          ·
           rw [if_neg c31] at H
           exact absurd H s9
         ·
          rw [if_neg c30] at H
          exact absurd H s9
     ·
      rw [if_neg c17] at H
      exact absurd H s9
    ·
     rw [if_neg c16] at H
     exact absurd H s9
end Go.Proofs.YtgcfmllgomikoaaDoor.PAll
end

section
namespace Go.Proofs.YtgcfmllgomikoaaDoor.PAll
open Go.RowKit Go.Proofs.YtgcfmllgomikoaaDoorW.PrintWords Go.Proofs.YtgcfmllgomikoaaDoorW.PrintLast Go.Proofs.YtgcfmllgomikoaaDoorOpen
def chaperonlaw05_TableAbove.Pure : Prop := ∀ (l0 : List (S45)) (a1 : Int), l0.length ≤ maxLen → (∀ x ∈ l0, wf45 x) → (Lit.int .i64 a1).wf = true → ∃ k, chaperonlaw05_TableAbove.f k l0 a1 = some true
end Go.Proofs.YtgcfmllgomikoaaDoor.PAll
end

section
namespace Go.Proofs.YtgcfmllgomikoaaDoorEv
def Evn {α : Type} (g : Nat → Option α) (v : α) : Prop := ∃ K, ∀ k, K ≤ k → g k = some v
section
variable {α β : Type}
theorem Evn.ret (v : α) : Evn (fun _ => some v) v := ⟨0, fun _ _ => rfl⟩
theorem Evn.bind {g : Nat → Option α} {h : Nat → α → Option β} {a : α} {b : β} (hg : Evn g a) (hh : Evn (fun k => h k a) b) : Evn (fun k => (g k).bind fun x => h k x) b := by
 obtain ⟨K1, h1⟩ := hg
 obtain ⟨K2, h2⟩ := hh
 exact ⟨max K1 K2, fun k hk => by show (g k).bind (fun x => h k x) = some b; rw [h1 k o9]; exact h2 k o9⟩
theorem Evn.cbind {a : Option α} {h : Nat → α → Option β} {v : α} {b : β} (ha : a = some v) (hh : Evn (fun k => h k v) b) : Evn (fun k => a.bind fun x => h k x) b := by
 subst ha
 exact hh
theorem Evn.succ {g : Nat → Option α} {v : α} (h : Evn (fun k => g (k + 1)) v) : Evn g v := by
 obtain ⟨K, h⟩ := h
 exact ⟨K + 1, fun k hk => by
  obtain ⟨j, rfl⟩ : ∃ j, k = j + 1 := ⟨k - 1, by omega⟩
  exact h j o9⟩
theorem Evn.congr {g g' : Nat → Option α} {v : α} (e : ∀ k, g k = g' k) (h : Evn g' v) : Evn g v := by
 obtain ⟨K, h⟩ := h
 exact ⟨K, fun k hk => (e k).trans (h k hk)⟩
theorem Evn.pos {p : Prop} [Decidable p] {g h : Nat → Option α} {v : α} (hp : p) (hg : Evn g v) : Evn (fun k => if p then g k else h k) v := Evn.congr (fun k => if_pos hp) hg
theorem Evn.neg {p : Prop} [Decidable p] {g h : Nat → Option α} {v : α} (hp : ¬ p) (hg : Evn h v) : Evn (fun k => if p then g k else h k) v := Evn.congr (fun k => if_neg hp) hg
theorem Evn.ex {g : Nat → Option α} {v : α} (h : Evn g v) : ∃ k, g k = some v := by
 obtain ⟨K, h⟩ := h
 exact ⟨K, h K (Nat.le_refl _)⟩
theorem Evn.val {g : Nat → Option α} {v v' : α} (h : Evn g v) (e : v = v') : Evn g v' := e ▸ h
end
end Go.Proofs.YtgcfmllgomikoaaDoorEv
end
