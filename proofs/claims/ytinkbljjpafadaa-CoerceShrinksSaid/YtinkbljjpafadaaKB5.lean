/- Parts of the proof of one statement, packed: what the program's functions compute. No conditions. -/
import Derived.Test.YtinkbljjpafadaaKB1
import Derived.Test.YtinkbljjpafadaaKB4
import Derived.Test.YtinkbljjpafadaaKB3
import Derived.Test.YtinkbljjpafadaaKB2
import Derived.Below
set_option linter.unusedSimpArgs false
set_option linter.unusedVariables false
set_option maxRecDepth 100000
set_option maxHeartbeats 8000000
section
namespace Go.Proofs.Ytinkbljjpafadaa.PAll
open Go.RowKit Go.Proofs.YtinkbljjpafadaaW.PrintWords Go.Proofs.YtinkbljjpafadaaW.PrintLast Go.Proofs.YtinkbljjpafadaaW.zaT
attribute [local go_sem] zba zbc zbn zbl zaZ zaX za8 zbb
mutual
def zah.l0 : Nat → List (S64) → Int → Option (Bool)
 | 0, _, _ => none
 | k + 1, x0, x3 => if x3 < (x0.length : Int) then (zah.j1 k x0 x3 (decide (x3 < 10))) else (zah.j1 k x0 x3 false)
def zah.j1 : Nat → List (S64) → Int → Bool → Option (Bool)
 | 0, _, _, _ => none
 | k + 1, x0, x3, x14 => if x14 = true then (if 0 ≤ x3 then (if x3 < (x0.length : Int) then (if (((zar x0 x3).f0).size : Int) > 30 then (zah.j2 k x0 x3 true ((zar x0 x3).f0) ((zar x0 x3).f1) ((zar x0 x3).f2) ((zar x0 x3).f3)) else (if (((zar x0 x3).f1).size : Int) > 30 then (zah.j2 k x0 x3 true ((zar x0 x3).f0) ((zar x0 x3).f1) ((zar x0 x3).f2) ((zar x0 x3).f3)) else (if (((zar x0 x3).f2).length : Int) > 7 then (zah.j2 k x0 x3 true ((zar x0 x3).f0) ((zar x0 x3).f1) ((zar x0 x3).f2) ((zar x0 x3).f3)) else (if (((zar x0 x3).f3).length : Int) > 7 then (zah.j2 k x0 x3 true ((zar x0 x3).f0) ((zar x0 x3).f1) ((zar x0 x3).f2) ((zar x0 x3).f3)) else ((zao.f k ((zar x0 x3).f2)).bind fun t265 => (zah.j2 k x0 x3 t265 ((zar x0 x3).f0) ((zar x0 x3).f1) ((zar x0 x3).f2) ((zar x0 x3).f3))))))) else (none)) else (none)) else (some (decide ((x0.length : Int) > 9)))
def zah.j2 : Nat → List (S64) → Int → Bool → ByteArray → ByteArray → List (S58) → List (S61) → Option (Bool)
 | 0, _, _, _, _, _, _, _ => none
 | k + 1, x0, x3, x47, x265000, x265001, x265002, x265003 => if x47 = true then (some true) else (zah.l1 k x0 x3 0 x265000 x265001 x265002 x265003)
def zah.l1 : Nat → List (S64) → Int → Int → ByteArray → ByteArray → List (S58) → List (S61) → Option (Bool)
 | 0, _, _, _, _, _, _, _ => none
 | k + 1, x0, x3, x5, x265000, x265001, x265002, x265003 => if x5 < (x265003.length : Int) then (if 0 ≤ x5 then (if (((za5 x265003 x5).f0).size : Int) > 30 then (some true) else (if (((za5 x265003 x5).f2).size : Int) > 30 then (some true) else (if (((za5 x265003 x5).f1).length : Int) > 10 then (some true) else ((zao.f k ((za5 x265003 x5).f1)).bind fun t268 => (if t268 = true then (some true) else (zah.l1 k x0 x3 (wrap64 (x5 + 1)) x265000 x265001 x265002 x265003)))))) else (none)) else (zah.l0 k x0 (wrap64 (x3 + 1)))
end
def zah.f (k : Nat) (l0 : List (S64)) : Option (Bool) := zah.l0 k l0 0
theorem zah.zbY : ∀ k, (∀ y0 y1, LeO (zah.l0 k y0 y1) (zah.l0 (k + 1) y0 y1)) ∧ (∀ y0 y1 y2, LeO (zah.j1 k y0 y1 y2) (zah.j1 (k + 1) y0 y1 y2)) ∧ (∀ y0 y1 y2 y3 y4 y5 y6, LeO (zah.j2 k y0 y1 y2 y3 y4 y5 y6) (zah.j2 (k + 1) y0 y1 y2 y3 y4 y5 y6)) ∧ (∀ y0 y1 y2 y3 y4 y5 y6, LeO (zah.l1 k y0 y1 y2 y3 y4 y5 y6) (zah.l1 (k + 1) y0 y1 y2 y3 y4 y5 y6))
 | 0 => ⟨fun _ _ r h => by simp [zah.l0] at h, fun _ _ _ r h => by simp [zah.j1] at h, fun _ _ _ _ _ _ _ r h => by simp [zah.j2] at h, fun _ _ _ _ _ _ _ r h => by simp [zah.l1] at h⟩
 | k + 1 => by
  obtain ⟨ih0, ih1, ih2, ih3⟩ := zah.zbY k
  refine ⟨?_, ?_, ?_, ?_⟩
  ·
   intro y0 y1
   unfold zah.l0
   repeat' first
   | (with_reducible exact ih0 _ _)
   | (with_reducible exact ih1 _ _ _)
   | (with_reducible exact ih2 _ _ _ _ _ _ _)
   | (with_reducible exact ih3 _ _ _ _ _ _ _)
   | (with_reducible exact zao.mono _ _)
   | (with_reducible exact LeO.refl _)
   | (with_reducible exact LeO.none _)
   | (with_reducible refine LeO.ite ?_ ?_)
   | (with_reducible refine LeO.bind ?_ (fun _ => ?_))
   | exact ih0 _ _
   | exact ih1 _ _ _
   | exact ih2 _ _ _ _ _ _ _
   | exact ih3 _ _ _ _ _ _ _
   | exact zao.mono _ _
   | exact LeO.none _
   | refine LeO.ite ?_ ?_
   | refine LeO.bind ?_ (fun _ => ?_)
  ·
   intro y0 y1 y2
   unfold zah.j1
   repeat' first
   | (with_reducible exact ih0 _ _)
   | (with_reducible exact ih1 _ _ _)
   | (with_reducible exact ih2 _ _ _ _ _ _ _)
   | (with_reducible exact ih3 _ _ _ _ _ _ _)
   | (with_reducible exact zao.mono _ _)
   | (with_reducible exact LeO.refl _)
   | (with_reducible exact LeO.none _)
   | (with_reducible refine LeO.ite ?_ ?_)
   | (with_reducible refine LeO.bind ?_ (fun _ => ?_))
   | exact ih0 _ _
   | exact ih1 _ _ _
   | exact ih2 _ _ _ _ _ _ _
   | exact ih3 _ _ _ _ _ _ _
   | exact zao.mono _ _
   | exact LeO.none _
   | refine LeO.ite ?_ ?_
   | refine LeO.bind ?_ (fun _ => ?_)
  ·
   intro y0 y1 y2 y3 y4 y5 y6
   unfold zah.j2
   repeat' first
   | (with_reducible exact ih0 _ _)
   | (with_reducible exact ih1 _ _ _)
   | (with_reducible exact ih2 _ _ _ _ _ _ _)
   | (with_reducible exact ih3 _ _ _ _ _ _ _)
   | (with_reducible exact zao.mono _ _)
   | (with_reducible exact LeO.refl _)
   | (with_reducible exact LeO.none _)
   | (with_reducible refine LeO.ite ?_ ?_)
   | (with_reducible refine LeO.bind ?_ (fun _ => ?_))
   | exact ih0 _ _
   | exact ih1 _ _ _
   | exact ih2 _ _ _ _ _ _ _
   | exact ih3 _ _ _ _ _ _ _
   | exact zao.mono _ _
   | exact LeO.none _
   | refine LeO.ite ?_ ?_
   | refine LeO.bind ?_ (fun _ => ?_)
  ·
   intro y0 y1 y2 y3 y4 y5 y6
   unfold zah.l1
   repeat' first
   | (with_reducible exact ih0 _ _)
   | (with_reducible exact ih1 _ _ _)
   | (with_reducible exact ih2 _ _ _ _ _ _ _)
   | (with_reducible exact ih3 _ _ _ _ _ _ _)
   | (with_reducible exact zao.mono _ _)
   | (with_reducible exact LeO.refl _)
   | (with_reducible exact LeO.none _)
   | (with_reducible refine LeO.ite ?_ ?_)
   | (with_reducible refine LeO.bind ?_ (fun _ => ?_))
   | exact ih0 _ _
   | exact ih1 _ _ _
   | exact ih2 _ _ _ _ _ _ _
   | exact ih3 _ _ _ _ _ _ _
   | exact zao.mono _ _
   | exact LeO.none _
   | refine LeO.ite ?_ ?_
   | refine LeO.bind ?_ (fun _ => ?_)
theorem zah.mono : ∀ a0 k, LeO (zah.f k a0) (zah.f (k + 1) a0) := by
 intro a0 k
 obtain ⟨ih0, ih1, ih2, ih3⟩ := zah.zbY k
 unfold zah.f
 repeat' first
   | (with_reducible exact ih0 _ _)
   | (with_reducible exact ih1 _ _ _)
   | (with_reducible exact ih2 _ _ _ _ _ _ _)
   | (with_reducible exact ih3 _ _ _ _ _ _ _)
   | (with_reducible exact zao.mono _ _)
   | (with_reducible exact LeO.refl _)
   | (with_reducible exact LeO.none _)
   | (with_reducible refine LeO.ite ?_ ?_)
   | (with_reducible refine LeO.bind ?_ (fun _ => ?_))
   | exact ih0 _ _
   | exact ih1 _ _ _
   | exact ih2 _ _ _ _ _ _ _
   | exact ih3 _ _ _ _ _ _ _
   | exact zao.mono _ _
   | exact LeO.none _
   | refine LeO.ite ?_ ?_
   | refine LeO.bind ?_ (fun _ => ?_)
theorem zah.calls (k : Nat) (A0 : Option Addr) (c0 : Nat) (l0 : List (S64)) (r : Bool) (w : World) (hr0 : Kd.C k64 w A0 l0.length l0) (hc0 : l0.length ≤ c0) (h : zah.f k l0 = some r) :
  Calls Try.prog 19 #[.slice A0 l0.length c0] w fun e w' => e = .returned (.bool r) ∧ Below w.heap.size w w' := by
 have hu64 := Try.underlying64
 have hu61 := Try.underlying61
 have HR0 := zaa.mk hr0
 have HC0 := zaa.mk hc0
 clear hr0 hc0
 have HB := zaa.mk (Below.refl w.heap.size w)
 have H : (zah.l0 k l0 0) = some r := h
 clear h
 have H' := zaa.mk H
 clear H
 go_enter Try.func19, Try.ntmps19
 go_wp2
 go_loopg [3] k (fun kq v3 w' => ∃ (x3_1 : Int), v3 = .int .i64 x3_1 ∧ zaa (zah.l0 kq l0 x3_1 = some r) ∧ zaa (kq ≤ k) ∧ zaa (Below w.heap.size w w'))
 case atStart => exact ⟨(0), (by first | rfl | (simp; done) | (simp [*]; done)), H', ⟨Nat.le_refl _⟩, ⟨bl HB.out⟩⟩
 case round =>
  clear H'
  try clear c1
  obtain ⟨x3_1, rfl, HA, HK1, HB⟩ := hrel
  cases gk with
  | zero => exact absurd HA.out (by simp [zah.l0])
  | succ k1 =>
   have H := HA.out
   clear HA
   simp only [zah.l0] at H
   have HC2 := zaa.mk H
   clear H
   go_upto_region 2 with (fail)
   go_cut [14] (fun v14 wc => ∃ (kq : Nat) (x14_1 : Bool), v14 = .bool x14_1 ∧ zaa (zah.j1 kq l0 x3_1 x14_1 = some r) ∧ zaa (kq ≤ k1) ∧ zaa (Below w.heap.size w wc))
   case first =>
    have H := HC2.out
    clear HC2
    by_cases c3 : x3_1 < (l0.length : Int)
    ·
     rw [if_pos c3] at H
     have c3b0 : decide (x3_1 < (l0.length : Int)) = true := decide_eq_true c3
     clear c3
     (first | rw [c3b0] | (simp only [i64_w, i32_w]; rw [c3b0]) | skip)
     have H' := zaa.mk H
     clear H
     go_wp2
     go_meet
     case rel => exact ⟨_, (decide (x3_1 < 10)), (by first | rfl | (simp; done) | (simp [*]; done)), H', ⟨by have := HK1.out; first | omega | exact Nat.le_refl _⟩, ⟨bl HB.out⟩⟩
    ·
     rw [if_neg c3] at H
     have c3b0 : decide (x3_1 < (l0.length : Int)) = false := decide_eq_false c3
     clear c3
     (first | rw [c3b0] | (simp only [i64_w, i32_w]; rw [c3b0]) | skip)
     have H' := zaa.mk H
     clear H
     go_wp2
     go_meet
     case rel => exact ⟨_, (false), (by first | rfl | (simp; done) | (simp [*]; done)), H', ⟨by have := HK1.out; first | omega | exact Nat.le_refl _⟩, ⟨bl HB.out⟩⟩
   case rest =>
    clear HC2
    try clear c1
    try clear p2
    try clear c3
    try clear c3b0
    obtain ⟨kq, x14_1, rfl, HA, HJ1, HB⟩ := hcut
    cases kq with
    | zero => exact absurd HA.out (by simp [zah.j1])
    | succ kj1 =>
     have H := HA.out
     clear HA
     simp only [zah.j1] at H
     by_cases c4 : x14_1 = true
     ·
      subst c4
      have H1 : (if 0 ≤ x3_1 then (if x3_1 < (l0.length : Int) then (if (((zar l0 x3_1).f0).size : Int) > 30 then (zah.j2 kj1 l0 x3_1 true ((zar l0 x3_1).f0) ((zar l0 x3_1).f1) ((zar l0 x3_1).f2) ((zar l0 x3_1).f3)) else (if (((zar l0 x3_1).f1).size : Int) > 30 then (zah.j2 kj1 l0 x3_1 true ((zar l0 x3_1).f0) ((zar l0 x3_1).f1) ((zar l0 x3_1).f2) ((zar l0 x3_1).f3)) else (if (((zar l0 x3_1).f2).length : Int) > 7 then (zah.j2 kj1 l0 x3_1 true ((zar l0 x3_1).f0) ((zar l0 x3_1).f1) ((zar l0 x3_1).f2) ((zar l0 x3_1).f3)) else (if (((zar l0 x3_1).f3).length : Int) > 7 then (zah.j2 kj1 l0 x3_1 true ((zar l0 x3_1).f0) ((zar l0 x3_1).f1) ((zar l0 x3_1).f2) ((zar l0 x3_1).f3)) else ((zao.f kj1 ((zar l0 x3_1).f2)).bind fun t265 => (zah.j2 kj1 l0 x3_1 t265 ((zar l0 x3_1).f0) ((zar l0 x3_1).f1) ((zar l0 x3_1).f2) ((zar l0 x3_1).f3))))))) else (none)) else (none)) = some r := by rw [if_pos rfl] at H; exact H
      clear H
      have H := H1
      clear H1
      by_cases c5 : 0 ≤ x3_1
      ·
       rw [if_pos c5] at H
       have c5b0 : decide (0 ≤ x3_1) = true := decide_eq_true c5
       clear c5
       by_cases c6 : x3_1 < (l0.length : Int)
       ·
        rw [if_pos c6] at H
        have c6b0 : decide (x3_1 < (l0.length : Int)) = true := decide_eq_true c6
        clear c6
        have HC7 := zaa.mk H
        clear H
        have p263 : 0 ≤ (x3_1 : Int) := of_decide_eq_true (by first | (with_reducible assumption) | assumption)
        have q263 : x3_1 < (l0.length : Int) := of_decide_eq_true (by first | (with_reducible assumption) | assumption)
        obtain ⟨ad263, A263_2, c263_2, A263_3, c263_3, e263, hx263_0, hx263_1, hx263_2, hx263_3, hl263_2, hi263_2, hl263_3, hi263_3⟩ := zdI HR0.out x3_1 p263 q263
        cases e263
        replace hx263_0 := (HB.out.cell (World.block_lt_of_cell? w _ hx263_0)).trans hx263_0
        replace hx263_1 := (HB.out.cell (World.block_lt_of_cell? w _ hx263_1)).trans hx263_1
        replace hx263_2 := (HB.out.cell (World.block_lt_of_cell? w _ hx263_2)).trans hx263_2
        replace hx263_3 := (HB.out.cell (World.block_lt_of_cell? w _ hx263_3)).trans hx263_3
        have HR263_2 := zaa.mk hi263_2
        have HC263_2 := zaa.mk hl263_2
        clear hi263_2 hl263_2
        have HR263_3 := zaa.mk hi263_3
        have HC263_3 := zaa.mk hl263_3
        clear hi263_3 hl263_3
        replace p263 := eq_true p263
        replace q263 := eq_true q263
        go_upto_region 5 with (first | ((with_reducible refine zaM (N := 4) rfl ?_); (try (refine zck (by rfl) ?_; dsimp only)); refine zbm (N := 4) (cs := #[.string (⟨#[]⟩ : ByteArray), .string (⟨#[]⟩ : ByteArray), .slice none 0 0, .slice none 0 0]) (t := 64) ?_; intro gb264 hg w8 hbox hb; have BK264 := zaa.mk (hbox); have GW264 := zaa.mk (gw hg (bl HB.out) : w.heap.size ≤ gb264); have GE264 := GW264; replace HB := zaa.mk (zaq (bl HB.out) hb); clear hb hbox hg; have hcz9_0 : w8.cell? ⟨gb264, 0, none⟩ = some (.string (⟨#[]⟩ : ByteArray)) := (zac BK264.out 0).trans rfl; have hcz9_1 : w8.cell? ⟨gb264, 1, none⟩ = some (.string (⟨#[]⟩ : ByteArray)) := (zac BK264.out 1).trans rfl; have hcz9_2 : w8.cell? ⟨gb264, 2, none⟩ = some (.slice none 0 0) := (zac BK264.out 2).trans rfl; have hcz9_3 : w8.cell? ⟨gb264, 3, none⟩ = some (.slice none 0 0) := (zac BK264.out 3).trans rfl; have hfz9_0 := zab BK264.out 0; have hfz9_1 := zab BK264.out 1; have hfz9_2 := zab BK264.out 2; have hfz9_3 := zab BK264.out 3))
        (try simp only [Act.put, List.setIfInBounds_toArray, List.set_cons_zero, List.set_cons_succ])
        go_cut [47] (fun v47 wc => ∃ (kq : Nat) (x47_6 : Bool), v47 = .bool x47_6 ∧ zaa (zah.j2 kq l0 x3_1 x47_6 ((zar l0 x3_1).f0) ((zar l0 x3_1).f1) ((zar l0 x3_1).f2) ((zar l0 x3_1).f3) = some r) ∧ zaa (kq ≤ kj1) ∧ zaa (wc.heap[gb264]? = some (.cells #[.string ((zar l0 x3_1).f0), .string ((zar l0 x3_1).f1), (.slice A263_2 ((zar l0 x3_1).f2).length c263_2), (.slice A263_3 ((zar l0 x3_1).f3).length c263_3)] 64 (0, 0))) ∧ zaa (Below w.heap.size w wc))
        case first =>
         have H := HC7.out
         clear HC7
         by_cases c10 : (((zar l0 x3_1).f0).size : Int) > 30
         ·
          rw [if_pos c10] at H
          have c10b0 : decide (30 < (((zar l0 x3_1).f0).size : Int)) = true := decide_eq_true c10
          have c10b1 : decide (30 < ((zar l0 x3_1).f0).size) = true := decide_eq_true o9
          clear c10
          (first | rw [c10b0] | (simp only [i64_w, i32_w]; rw [c10b0]) | skip)
          have H' := zaa.mk H
          clear H
          have hcz11_0 : w8.cell? ⟨gb264, 0, none⟩ = some (.string (⟨#[]⟩ : ByteArray)) := (zac BK264.out 0).trans rfl
          have hcz11_1 : w8.cell? ⟨gb264, 1, none⟩ = some (.string (⟨#[]⟩ : ByteArray)) := (zac BK264.out 1).trans rfl
          have hcz11_2 : w8.cell? ⟨gb264, 2, none⟩ = some (.slice none 0 0) := (zac BK264.out 2).trans rfl
          have hcz11_3 : w8.cell? ⟨gb264, 3, none⟩ = some (.slice none 0 0) := (zac BK264.out 3).trans rfl
          have hfz11_0 := zab BK264.out 0
          have hfz11_1 := zab BK264.out 1
          have hfz11_2 := zab BK264.out 2
          have hfz11_3 := zab BK264.out 3
          go_wp2
          go_meet
          case rel => exact ⟨_, (true), (by first | rfl | (simp; done) | (simp [*]; done)), H', ⟨by have := HK1.out; have := HJ1.out; first | omega | exact Nat.le_refl _⟩, ⟨bp BK264.out⟩, ⟨bl HB.out⟩⟩
         ·
          rw [if_neg c10] at H
          have c10b0 : decide (30 < (((zar l0 x3_1).f0).size : Int)) = false := decide_eq_false c10
          have c10b1 : decide (30 < ((zar l0 x3_1).f0).size) = false := decide_eq_false o9
          clear c10
          (first | rw [c10b0] | (simp only [i64_w, i32_w]; rw [c10b0]) | skip)
          by_cases c12 : (((zar l0 x3_1).f1).size : Int) > 30
          ·
           rw [if_pos c12] at H
           have c12b0 : decide (30 < (((zar l0 x3_1).f1).size : Int)) = true := decide_eq_true c12
           have c12b1 : decide (30 < ((zar l0 x3_1).f1).size) = true := decide_eq_true o9
           clear c12
           have H' := zaa.mk H
           clear H
           have hcz13_0 : w8.cell? ⟨gb264, 0, none⟩ = some (.string (⟨#[]⟩ : ByteArray)) := (zac BK264.out 0).trans rfl
           have hcz13_1 : w8.cell? ⟨gb264, 1, none⟩ = some (.string (⟨#[]⟩ : ByteArray)) := (zac BK264.out 1).trans rfl
           have hcz13_2 : w8.cell? ⟨gb264, 2, none⟩ = some (.slice none 0 0) := (zac BK264.out 2).trans rfl
           have hcz13_3 : w8.cell? ⟨gb264, 3, none⟩ = some (.slice none 0 0) := (zac BK264.out 3).trans rfl
           have hfz13_0 := zab BK264.out 0
           have hfz13_1 := zab BK264.out 1
           have hfz13_2 := zab BK264.out 2
           have hfz13_3 := zab BK264.out 3
           go_wp2
           go_meet
           case rel => exact ⟨_, (true), (by first | rfl | (simp; done) | (simp [*]; done)), H', ⟨by have := HK1.out; have := HJ1.out; first | omega | exact Nat.le_refl _⟩, ⟨bp BK264.out⟩, ⟨bl HB.out⟩⟩
          ·
           rw [if_neg c12] at H
           have c12b0 : decide (30 < (((zar l0 x3_1).f1).size : Int)) = false := decide_eq_false c12
           have c12b1 : decide (30 < ((zar l0 x3_1).f1).size) = false := decide_eq_false o9
           clear c12
           by_cases c14 : (((zar l0 x3_1).f2).length : Int) > 7
           ·
            rw [if_pos c14] at H
            have c14b0 : decide (7 < (((zar l0 x3_1).f2).length : Int)) = true := decide_eq_true c14
            have c14b1 : decide (7 < ((zar l0 x3_1).f2).length) = true := decide_eq_true o9
            clear c14
            have H' := zaa.mk H
            clear H
            have hcz15_0 : w8.cell? ⟨gb264, 0, none⟩ = some (.string (⟨#[]⟩ : ByteArray)) := (zac BK264.out 0).trans rfl
            have hcz15_1 : w8.cell? ⟨gb264, 1, none⟩ = some (.string (⟨#[]⟩ : ByteArray)) := (zac BK264.out 1).trans rfl
            have hcz15_2 : w8.cell? ⟨gb264, 2, none⟩ = some (.slice none 0 0) := (zac BK264.out 2).trans rfl
            have hcz15_3 : w8.cell? ⟨gb264, 3, none⟩ = some (.slice none 0 0) := (zac BK264.out 3).trans rfl
            have hfz15_0 := zab BK264.out 0
            have hfz15_1 := zab BK264.out 1
            have hfz15_2 := zab BK264.out 2
            have hfz15_3 := zab BK264.out 3
            go_wp2
            go_meet
            case rel => exact ⟨_, (true), (by first | rfl | (simp; done) | (simp [*]; done)), H', ⟨by have := HK1.out; have := HJ1.out; first | omega | exact Nat.le_refl _⟩, ⟨bp BK264.out⟩, ⟨bl HB.out⟩⟩
           ·
            rw [if_neg c14] at H
            have c14b0 : decide (7 < (((zar l0 x3_1).f2).length : Int)) = false := decide_eq_false c14
            have c14b1 : decide (7 < ((zar l0 x3_1).f2).length) = false := decide_eq_false o9
            clear c14
            by_cases c16 : (((zar l0 x3_1).f3).length : Int) > 7
            ·
             rw [if_pos c16] at H
             have c16b0 : decide (7 < (((zar l0 x3_1).f3).length : Int)) = true := decide_eq_true c16
             have c16b1 : decide (7 < ((zar l0 x3_1).f3).length) = true := decide_eq_true o9
             clear c16
             have H' := zaa.mk H
             clear H
             have hcz17_0 : w8.cell? ⟨gb264, 0, none⟩ = some (.string (⟨#[]⟩ : ByteArray)) := (zac BK264.out 0).trans rfl
             have hcz17_1 : w8.cell? ⟨gb264, 1, none⟩ = some (.string (⟨#[]⟩ : ByteArray)) := (zac BK264.out 1).trans rfl
             have hcz17_2 : w8.cell? ⟨gb264, 2, none⟩ = some (.slice none 0 0) := (zac BK264.out 2).trans rfl
             have hcz17_3 : w8.cell? ⟨gb264, 3, none⟩ = some (.slice none 0 0) := (zac BK264.out 3).trans rfl
             have hfz17_0 := zab BK264.out 0
             have hfz17_1 := zab BK264.out 1
             have hfz17_2 := zab BK264.out 2
             have hfz17_3 := zab BK264.out 3
             go_wp2
             go_meet
             case rel => exact ⟨_, (true), (by first | rfl | (simp; done) | (simp [*]; done)), H', ⟨by have := HK1.out; have := HJ1.out; first | omega | exact Nat.le_refl _⟩, ⟨bp BK264.out⟩, ⟨bl HB.out⟩⟩
            ·
             rw [if_neg c16] at H
             have c16b0 : decide (7 < (((zar l0 x3_1).f3).length : Int)) = false := decide_eq_false c16
             have c16b1 : decide (7 < ((zar l0 x3_1).f3).length) = false := decide_eq_false o9
             clear c16
             replace H := Option.bind_eq_some_iff.mp H
             obtain ⟨t265, A180, H⟩ := H
             replace H : (zah.j2 kj1 l0 x3_1 t265 ((zar l0 x3_1).f0) ((zar l0 x3_1).f1) ((zar l0 x3_1).f2) ((zar l0 x3_1).f3)) = some r := H
             have A18 := zaa.mk A180
             clear A180
             have H' := zaa.mk H
             clear H
             have hcz19_0 : w8.cell? ⟨gb264, 0, none⟩ = some (.string (⟨#[]⟩ : ByteArray)) := (zac BK264.out 0).trans rfl
             have hcz19_1 : w8.cell? ⟨gb264, 1, none⟩ = some (.string (⟨#[]⟩ : ByteArray)) := (zac BK264.out 1).trans rfl
             have hcz19_2 : w8.cell? ⟨gb264, 2, none⟩ = some (.slice none 0 0) := (zac BK264.out 2).trans rfl
             have hcz19_3 : w8.cell? ⟨gb264, 3, none⟩ = some (.slice none 0 0) := (zac BK264.out 3).trans rfl
             have hfz19_0 := zab BK264.out 0
             have hfz19_1 := zab BK264.out 1
             have hfz19_2 := zab BK264.out 2
             have hfz19_3 := zab BK264.out 3
             go_wp2_with (first | (go_at_call 38; (with_reducible refine (zao.calls kj1 _ _ ((zar l0 x3_1).f2) t265 _ ?side1 ?side2 A18.out).mono ?_); (case side1 => exact Kd.zat HR263_2.out (bl HB.out)); (case side2 => exact HC263_2.out); rintro e w' ⟨rfl, ⟨nd, rfl⟩⟩))
             go_meet
             case rel => exact ⟨_, (t265), (by first | rfl | (simp; done) | (simp [*]; done)), H', ⟨by have := HK1.out; have := HJ1.out; first | omega | exact Nat.le_refl _⟩, ⟨bp BK264.out⟩, ⟨bl HB.out⟩⟩
        case rest =>
         clear HC7
         try clear c1
         try clear c2
         try clear p2
         try clear q2
         try clear hx2
         try clear c3
         try clear c3b0
         try clear c4
         try clear c5
         try clear c5b0
         try clear c6
         try clear c6b0
         try clear c10
         try clear c10b0
         try clear c10b1
         try clear c12
         try clear c12b0
         try clear c12b1
         try clear c14
         try clear c14b0
         try clear c14b1
         try clear c16
         try clear c16b0
         try clear c16b1
         try clear c19
         try clear hcz11_0
         try clear hcz11_1
         try clear hcz11_2
         try clear hcz11_3
         try clear hcz13_0
         try clear hcz13_1
         try clear hcz13_2
         try clear hcz13_3
         try clear hcz15_0
         try clear hcz15_1
         try clear hcz15_2
         try clear hcz15_3
         try clear hcz17_0
         try clear hcz17_1
         try clear hcz17_2
         try clear hcz17_3
         try clear hcz19_0
         try clear hcz19_1
         try clear hcz19_2
         try clear hcz19_3
         try clear hcz9_0
         try clear hcz9_1
         try clear hcz9_2
         try clear hcz9_3
         try clear hfz11_0
         try clear hfz11_1
         try clear hfz11_2
         try clear hfz11_3
         try clear hfz13_0
         try clear hfz13_1
         try clear hfz13_2
         try clear hfz13_3
         try clear hfz15_0
         try clear hfz15_1
         try clear hfz15_2
         try clear hfz15_3
         try clear hfz17_0
         try clear hfz17_1
         try clear hfz17_2
         try clear hfz17_3
         try clear hfz19_0
         try clear hfz19_1
         try clear hfz19_2
         try clear hfz19_3
         try clear hfz9_0
         try clear hfz9_1
         try clear hfz9_2
         try clear hfz9_3
         try clear hx263_0
         try clear hx263_1
         try clear hx263_2
         try clear hx263_3
         try clear p2
         try clear p263
         try clear q263
         obtain ⟨kq, x47_6, rfl, HA, HJ6, BK264, HB⟩ := hcut
         cases kq with
         | zero => exact absurd HA.out (by simp [zah.j2])
         | succ kj6 =>
          have H := HA.out
          clear HA
          simp only [zah.j2] at H
          by_cases c20 : x47_6 = true
          ·
           subst c20
           have H1 : (some true) = some r := by rw [if_pos rfl] at H; exact H
           clear H
           have H := H1
           clear H1
           obtain rfl := Option.some.inj H
           go_wp2
           go_ret
           exact ⟨by first | rfl | (simp [zaC, zaD] <;> rfl) | (simp [*, zaC, zaD] <;> rfl), bl HB.out⟩
          ·
           replace c20 := Bool.eq_false_iff.mpr c20
           subst c20
           have H1 : (zah.l1 kj6 l0 x3_1 0 ((zar l0 x3_1).f0) ((zar l0 x3_1).f1) ((zar l0 x3_1).f2) ((zar l0 x3_1).f3)) = some r := by rw [if_neg (show ¬ (false = true) by decide)] at H; exact H
           clear H
           have H := H1
           clear H1
           have H' := zaa.mk H
           clear H
           go_wp2
           go_loopg [5] kj6 (fun kq v5 w' => ∃ (x5_4 : Int), v5 = .int .i64 x5_4 ∧ zaa (zah.l1 kq l0 x3_1 x5_4 ((zar l0 x3_1).f0) ((zar l0 x3_1).f1) ((zar l0 x3_1).f2) ((zar l0 x3_1).f3) = some r) ∧ zaa (kq ≤ kj6) ∧ zaa (w'.heap[gb264]? = some (.cells #[.string ((zar l0 x3_1).f0), .string ((zar l0 x3_1).f1), (.slice A263_2 ((zar l0 x3_1).f2).length c263_2), (.slice A263_3 ((zar l0 x3_1).f3).length c263_3)] 64 (0, 0))) ∧ zaa (Below w.heap.size w w'))
           case atStart => exact ⟨(0), (by first | rfl | (simp; done) | (simp [*]; done)), H', ⟨Nat.le_refl _⟩, ⟨bk BK264.out⟩, ⟨bl HB.out⟩⟩
           case round =>
            clear H'
            try clear c1
            try clear c2
            try clear p2
            try clear q2
            try clear hx2
            try clear c3
            try clear c3b0
            try clear c4
            try clear c5
            try clear c5b0
            try clear c6
            try clear c6b0
            try clear c10
            try clear c10b0
            try clear c10b1
            try clear c12
            try clear c12b0
            try clear c12b1
            try clear c14
            try clear c14b0
            try clear c14b1
            try clear c16
            try clear c16b0
            try clear c16b1
            try clear c19
            try clear c20
            try clear hcz11_0
            try clear hcz11_1
            try clear hcz11_2
            try clear hcz11_3
            try clear hcz13_0
            try clear hcz13_1
            try clear hcz13_2
            try clear hcz13_3
            try clear hcz15_0
            try clear hcz15_1
            try clear hcz15_2
            try clear hcz15_3
            try clear hcz17_0
            try clear hcz17_1
            try clear hcz17_2
            try clear hcz17_3
            try clear hcz19_0
            try clear hcz19_1
            try clear hcz19_2
            try clear hcz19_3
            try clear hcz9_0
            try clear hcz9_1
            try clear hcz9_2
            try clear hcz9_3
            try clear hfz11_0
            try clear hfz11_1
            try clear hfz11_2
            try clear hfz11_3
            try clear hfz13_0
            try clear hfz13_1
            try clear hfz13_2
            try clear hfz13_3
            try clear hfz15_0
            try clear hfz15_1
            try clear hfz15_2
            try clear hfz15_3
            try clear hfz17_0
            try clear hfz17_1
            try clear hfz17_2
            try clear hfz17_3
            try clear hfz19_0
            try clear hfz19_1
            try clear hfz19_2
            try clear hfz19_3
            try clear hfz9_0
            try clear hfz9_1
            try clear hfz9_2
            try clear hfz9_3
            try clear hx263_0
            try clear hx263_1
            try clear hx263_2
            try clear hx263_3
            try clear p2
            try clear p263
            try clear q2
            try clear q263
            obtain ⟨x5_4, rfl, HA, HK4, BK264, HB⟩ := hrel
            cases gk with
            | zero => exact absurd HA.out (by simp [zah.l1])
            | succ k4 =>
             have H := HA.out
             clear HA
             simp only [zah.l1] at H
             by_cases c21 : x5_4 < (((zar l0 x3_1).f3).length : Int)
             ·
              rw [if_pos c21] at H
              have c21b0 : decide (x5_4 < (((zar l0 x3_1).f3).length : Int)) = true := decide_eq_true c21
              clear c21
              by_cases c22 : 0 ≤ x5_4
              ·
               rw [if_pos c22] at H
               have c22b0 : decide (0 ≤ x5_4) = true := decide_eq_true c22
               clear c22
               by_cases c23 : (((za5 ((zar l0 x3_1).f3) x5_4).f0).size : Int) > 30
               ·
                rw [if_pos c23] at H
                have c23b0 : decide (30 < (((za5 ((zar l0 x3_1).f3) x5_4).f0).size : Int)) = true := decide_eq_true c23
                have c23b1 : decide (30 < ((za5 ((zar l0 x3_1).f3) x5_4).f0).size) = true := decide_eq_true o9
                clear c23
                obtain rfl := Option.some.inj H
                have hcz24_0 : wr.cell? ⟨gb264, 0, none⟩ = some (.string ((zar l0 x3_1).f0)) := (zac BK264.out 0).trans rfl
                have hcz24_1 : wr.cell? ⟨gb264, 1, none⟩ = some (.string ((zar l0 x3_1).f1)) := (zac BK264.out 1).trans rfl
                have hcz24_2 : wr.cell? ⟨gb264, 2, none⟩ = some (.slice A263_2 ((zar l0 x3_1).f2).length c263_2) := (zac BK264.out 2).trans rfl
                have hcz24_3 : wr.cell? ⟨gb264, 3, none⟩ = some (.slice A263_3 ((zar l0 x3_1).f3).length c263_3) := (zac BK264.out 3).trans rfl
                have hfz24_0 := zab BK264.out 0
                have hfz24_1 := zab BK264.out 1
                have hfz24_2 := zab BK264.out 2
                have hfz24_3 := zab BK264.out 3
                have p266 : 0 ≤ (x5_4 : Int) := of_decide_eq_true (by first | (with_reducible assumption) | assumption)
                have q266 : x5_4 < (((zar l0 x3_1).f3).length : Int) := of_decide_eq_true (by first | (with_reducible assumption) | assumption)
                obtain ⟨ad266, A266_1, c266_1, e266, hx266_0, hx266_1, hx266_2, hl266_1, hi266_1⟩ := zdA HR263_3.out x5_4 p266 q266
                cases e266
                replace hx266_0 := (HB.out.cell (World.block_lt_of_cell? w _ hx266_0)).trans hx266_0
                replace hx266_1 := (HB.out.cell (World.block_lt_of_cell? w _ hx266_1)).trans hx266_1
                replace hx266_2 := (HB.out.cell (World.block_lt_of_cell? w _ hx266_2)).trans hx266_2
                have HR266_1 := zaa.mk hi266_1
                have HC266_1 := zaa.mk hl266_1
                clear hi266_1 hl266_1
                replace p266 := eq_true p266
                replace q266 := eq_true q266
                go_wp2_with (first | ((with_reducible refine zaM (N := 6) rfl ?_); (try (refine zck (by rfl) ?_; dsimp only)); refine zbm (N := 6) (cs := #[.string (⟨#[]⟩ : ByteArray), .slice none 0 0, .string (⟨#[]⟩ : ByteArray)]) (t := 61) ?_; intro gb267 hg w25 hbox hb; have BK267 := zaa.mk (hbox); have GW267 := zaa.mk (gw hg (bl HB.out) : w.heap.size ≤ gb267); have GE267 := GW267; have NB264_267 := zaa.mk (nl hg BK264.out : gb264 ≠ gb267); have NB267_264 := zaa.mk (ng hg BK264.out : gb267 ≠ gb264); replace BK264 := zaa.mk (zaw (bk BK264.out) hb); replace HB := zaa.mk (zaq (bl HB.out) hb); clear hb hbox hg; have hnb26 := NB267_264.out; have hnc26 := NB264_267.out; have hcz27_0 : w25.cell? ⟨gb267, 0, none⟩ = some (.string (⟨#[]⟩ : ByteArray)) := (zac BK267.out 0).trans rfl; have hcz27_1 : w25.cell? ⟨gb267, 1, none⟩ = some (.slice none 0 0) := (zac BK267.out 1).trans rfl; have hcz27_2 : w25.cell? ⟨gb267, 2, none⟩ = some (.string (⟨#[]⟩ : ByteArray)) := (zac BK267.out 2).trans rfl; have hfz27_0 := zab BK267.out 0; have hfz27_1 := zab BK267.out 1; have hfz27_2 := zab BK267.out 2))
                go_ret
                exact ⟨by first | rfl | (simp [zaC, zaD] <;> rfl) | (simp [*, zaC, zaD] <;> rfl), bl HB.out⟩
               ·
                rw [if_neg c23] at H
                have c23b0 : decide (30 < (((za5 ((zar l0 x3_1).f3) x5_4).f0).size : Int)) = false := decide_eq_false c23
                have c23b1 : decide (30 < ((za5 ((zar l0 x3_1).f3) x5_4).f0).size) = false := decide_eq_false o9
                clear c23
                by_cases c28 : (((za5 ((zar l0 x3_1).f3) x5_4).f2).size : Int) > 30
                ·
                 rw [if_pos c28] at H
                 have c28b0 : decide (30 < (((za5 ((zar l0 x3_1).f3) x5_4).f2).size : Int)) = true := decide_eq_true c28
                 have c28b1 : decide (30 < ((za5 ((zar l0 x3_1).f3) x5_4).f2).size) = true := decide_eq_true o9
                 clear c28
                 obtain rfl := Option.some.inj H
                 have hcz29_0 : wr.cell? ⟨gb264, 0, none⟩ = some (.string ((zar l0 x3_1).f0)) := (zac BK264.out 0).trans rfl
                 have hcz29_1 : wr.cell? ⟨gb264, 1, none⟩ = some (.string ((zar l0 x3_1).f1)) := (zac BK264.out 1).trans rfl
                 have hcz29_2 : wr.cell? ⟨gb264, 2, none⟩ = some (.slice A263_2 ((zar l0 x3_1).f2).length c263_2) := (zac BK264.out 2).trans rfl
                 have hcz29_3 : wr.cell? ⟨gb264, 3, none⟩ = some (.slice A263_3 ((zar l0 x3_1).f3).length c263_3) := (zac BK264.out 3).trans rfl
                 have hfz29_0 := zab BK264.out 0
                 have hfz29_1 := zab BK264.out 1
                 have hfz29_2 := zab BK264.out 2
                 have hfz29_3 := zab BK264.out 3
                 have p266 : 0 ≤ (x5_4 : Int) := of_decide_eq_true (by first | (with_reducible assumption) | assumption)
                 have q266 : x5_4 < (((zar l0 x3_1).f3).length : Int) := of_decide_eq_true (by first | (with_reducible assumption) | assumption)
                 obtain ⟨ad266, A266_1, c266_1, e266, hx266_0, hx266_1, hx266_2, hl266_1, hi266_1⟩ := zdA HR263_3.out x5_4 p266 q266
                 cases e266
                 replace hx266_0 := (HB.out.cell (World.block_lt_of_cell? w _ hx266_0)).trans hx266_0
                 replace hx266_1 := (HB.out.cell (World.block_lt_of_cell? w _ hx266_1)).trans hx266_1
                 replace hx266_2 := (HB.out.cell (World.block_lt_of_cell? w _ hx266_2)).trans hx266_2
                 have HR266_1 := zaa.mk hi266_1
                 have HC266_1 := zaa.mk hl266_1
                 clear hi266_1 hl266_1
                 replace p266 := eq_true p266
                 replace q266 := eq_true q266
                 go_wp2_with (first | ((with_reducible refine zaM (N := 6) rfl ?_); (try (refine zck (by rfl) ?_; dsimp only)); refine zbm (N := 6) (cs := #[.string (⟨#[]⟩ : ByteArray), .slice none 0 0, .string (⟨#[]⟩ : ByteArray)]) (t := 61) ?_; intro gb267 hg w30 hbox hb; have BK267 := zaa.mk (hbox); have GW267 := zaa.mk (gw hg (bl HB.out) : w.heap.size ≤ gb267); have GE267 := GW267; have NB264_267 := zaa.mk (nl hg BK264.out : gb264 ≠ gb267); have NB267_264 := zaa.mk (ng hg BK264.out : gb267 ≠ gb264); replace BK264 := zaa.mk (zaw (bk BK264.out) hb); replace HB := zaa.mk (zaq (bl HB.out) hb); clear hb hbox hg; have hnb31 := NB267_264.out; have hnc31 := NB264_267.out; have hcz32_0 : w30.cell? ⟨gb267, 0, none⟩ = some (.string (⟨#[]⟩ : ByteArray)) := (zac BK267.out 0).trans rfl; have hcz32_1 : w30.cell? ⟨gb267, 1, none⟩ = some (.slice none 0 0) := (zac BK267.out 1).trans rfl; have hcz32_2 : w30.cell? ⟨gb267, 2, none⟩ = some (.string (⟨#[]⟩ : ByteArray)) := (zac BK267.out 2).trans rfl; have hfz32_0 := zab BK267.out 0; have hfz32_1 := zab BK267.out 1; have hfz32_2 := zab BK267.out 2))
                 go_ret
                 exact ⟨by first | rfl | (simp [zaC, zaD] <;> rfl) | (simp [*, zaC, zaD] <;> rfl), bl HB.out⟩
                ·
                 rw [if_neg c28] at H
                 have c28b0 : decide (30 < (((za5 ((zar l0 x3_1).f3) x5_4).f2).size : Int)) = false := decide_eq_false c28
                 have c28b1 : decide (30 < ((za5 ((zar l0 x3_1).f3) x5_4).f2).size) = false := decide_eq_false o9
                 clear c28
                 by_cases c33 : (((za5 ((zar l0 x3_1).f3) x5_4).f1).length : Int) > 10
                 ·
                  rw [if_pos c33] at H
                  have c33b0 : decide (10 < (((za5 ((zar l0 x3_1).f3) x5_4).f1).length : Int)) = true := decide_eq_true c33
                  have c33b1 : decide (10 < ((za5 ((zar l0 x3_1).f3) x5_4).f1).length) = true := decide_eq_true o9
                  clear c33
                  obtain rfl := Option.some.inj H
                  have hcz34_0 : wr.cell? ⟨gb264, 0, none⟩ = some (.string ((zar l0 x3_1).f0)) := (zac BK264.out 0).trans rfl
                  have hcz34_1 : wr.cell? ⟨gb264, 1, none⟩ = some (.string ((zar l0 x3_1).f1)) := (zac BK264.out 1).trans rfl
                  have hcz34_2 : wr.cell? ⟨gb264, 2, none⟩ = some (.slice A263_2 ((zar l0 x3_1).f2).length c263_2) := (zac BK264.out 2).trans rfl
                  have hcz34_3 : wr.cell? ⟨gb264, 3, none⟩ = some (.slice A263_3 ((zar l0 x3_1).f3).length c263_3) := (zac BK264.out 3).trans rfl
                  have hfz34_0 := zab BK264.out 0
                  have hfz34_1 := zab BK264.out 1
                  have hfz34_2 := zab BK264.out 2
                  have hfz34_3 := zab BK264.out 3
                  have p266 : 0 ≤ (x5_4 : Int) := of_decide_eq_true (by first | (with_reducible assumption) | assumption)
                  have q266 : x5_4 < (((zar l0 x3_1).f3).length : Int) := of_decide_eq_true (by first | (with_reducible assumption) | assumption)
                  obtain ⟨ad266, A266_1, c266_1, e266, hx266_0, hx266_1, hx266_2, hl266_1, hi266_1⟩ := zdA HR263_3.out x5_4 p266 q266
                  cases e266
                  replace hx266_0 := (HB.out.cell (World.block_lt_of_cell? w _ hx266_0)).trans hx266_0
                  replace hx266_1 := (HB.out.cell (World.block_lt_of_cell? w _ hx266_1)).trans hx266_1
                  replace hx266_2 := (HB.out.cell (World.block_lt_of_cell? w _ hx266_2)).trans hx266_2
                  have HR266_1 := zaa.mk hi266_1
                  have HC266_1 := zaa.mk hl266_1
                  clear hi266_1 hl266_1
                  replace p266 := eq_true p266
                  replace q266 := eq_true q266
                  go_wp2_with (first | ((with_reducible refine zaM (N := 6) rfl ?_); (try (refine zck (by rfl) ?_; dsimp only)); refine zbm (N := 6) (cs := #[.string (⟨#[]⟩ : ByteArray), .slice none 0 0, .string (⟨#[]⟩ : ByteArray)]) (t := 61) ?_; intro gb267 hg w35 hbox hb; have BK267 := zaa.mk (hbox); have GW267 := zaa.mk (gw hg (bl HB.out) : w.heap.size ≤ gb267); have GE267 := GW267; have NB264_267 := zaa.mk (nl hg BK264.out : gb264 ≠ gb267); have NB267_264 := zaa.mk (ng hg BK264.out : gb267 ≠ gb264); replace BK264 := zaa.mk (zaw (bk BK264.out) hb); replace HB := zaa.mk (zaq (bl HB.out) hb); clear hb hbox hg; have hnb36 := NB267_264.out; have hnc36 := NB264_267.out; have hcz37_0 : w35.cell? ⟨gb267, 0, none⟩ = some (.string (⟨#[]⟩ : ByteArray)) := (zac BK267.out 0).trans rfl; have hcz37_1 : w35.cell? ⟨gb267, 1, none⟩ = some (.slice none 0 0) := (zac BK267.out 1).trans rfl; have hcz37_2 : w35.cell? ⟨gb267, 2, none⟩ = some (.string (⟨#[]⟩ : ByteArray)) := (zac BK267.out 2).trans rfl; have hfz37_0 := zab BK267.out 0; have hfz37_1 := zab BK267.out 1; have hfz37_2 := zab BK267.out 2))
                  go_ret
                  exact ⟨by first | rfl | (simp [zaC, zaD] <;> rfl) | (simp [*, zaC, zaD] <;> rfl), bl HB.out⟩
                 ·
                  rw [if_neg c33] at H
                  have c33b0 : decide (10 < (((za5 ((zar l0 x3_1).f3) x5_4).f1).length : Int)) = false := decide_eq_false c33
                  have c33b1 : decide (10 < ((za5 ((zar l0 x3_1).f3) x5_4).f1).length) = false := decide_eq_false o9
                  clear c33
                  replace H := Option.bind_eq_some_iff.mp H
                  obtain ⟨t268, A380, H⟩ := H
                  replace H : (if t268 = true then (some true) else (zah.l1 k4 l0 x3_1 (wrap64 (x5_4 + 1)) ((zar l0 x3_1).f0) ((zar l0 x3_1).f1) ((zar l0 x3_1).f2) ((zar l0 x3_1).f3))) = some r := H
                  have A38 := zaa.mk A380
                  clear A380
                  by_cases c39 : t268 = true
                  ·
                   subst c39
                   have H1 : (some true) = some r := by rw [if_pos rfl] at H; exact H
                   clear H
                   have H := H1
                   clear H1
                   obtain rfl := Option.some.inj H
                   have hcz40_0 : wr.cell? ⟨gb264, 0, none⟩ = some (.string ((zar l0 x3_1).f0)) := (zac BK264.out 0).trans rfl
                   have hcz40_1 : wr.cell? ⟨gb264, 1, none⟩ = some (.string ((zar l0 x3_1).f1)) := (zac BK264.out 1).trans rfl
                   have hcz40_2 : wr.cell? ⟨gb264, 2, none⟩ = some (.slice A263_2 ((zar l0 x3_1).f2).length c263_2) := (zac BK264.out 2).trans rfl
                   have hcz40_3 : wr.cell? ⟨gb264, 3, none⟩ = some (.slice A263_3 ((zar l0 x3_1).f3).length c263_3) := (zac BK264.out 3).trans rfl
                   have hfz40_0 := zab BK264.out 0
                   have hfz40_1 := zab BK264.out 1
                   have hfz40_2 := zab BK264.out 2
                   have hfz40_3 := zab BK264.out 3
                   have p266 : 0 ≤ (x5_4 : Int) := of_decide_eq_true (by first | (with_reducible assumption) | assumption)
                   have q266 : x5_4 < (((zar l0 x3_1).f3).length : Int) := of_decide_eq_true (by first | (with_reducible assumption) | assumption)
                   obtain ⟨ad266, A266_1, c266_1, e266, hx266_0, hx266_1, hx266_2, hl266_1, hi266_1⟩ := zdA HR263_3.out x5_4 p266 q266
                   cases e266
                   replace hx266_0 := (HB.out.cell (World.block_lt_of_cell? w _ hx266_0)).trans hx266_0
                   replace hx266_1 := (HB.out.cell (World.block_lt_of_cell? w _ hx266_1)).trans hx266_1
                   replace hx266_2 := (HB.out.cell (World.block_lt_of_cell? w _ hx266_2)).trans hx266_2
                   have HR266_1 := zaa.mk hi266_1
                   have HC266_1 := zaa.mk hl266_1
                   clear hi266_1 hl266_1
                   replace p266 := eq_true p266
                   replace q266 := eq_true q266
                   go_wp2_with (first | ((with_reducible refine zaM (N := 6) rfl ?_); (try (refine zck (by rfl) ?_; dsimp only)); refine zbm (N := 6) (cs := #[.string (⟨#[]⟩ : ByteArray), .slice none 0 0, .string (⟨#[]⟩ : ByteArray)]) (t := 61) ?_; intro gb267 hg w41 hbox hb; have BK267 := zaa.mk (hbox); have GW267 := zaa.mk (gw hg (bl HB.out) : w.heap.size ≤ gb267); have GE267 := GW267; have NB264_267 := zaa.mk (nl hg BK264.out : gb264 ≠ gb267); have NB267_264 := zaa.mk (ng hg BK264.out : gb267 ≠ gb264); replace BK264 := zaa.mk (zaw (bk BK264.out) hb); replace HB := zaa.mk (zaq (bl HB.out) hb); clear hb hbox hg; have hnb42 := NB267_264.out; have hnc42 := NB264_267.out; have hcz43_0 : w41.cell? ⟨gb267, 0, none⟩ = some (.string (⟨#[]⟩ : ByteArray)) := (zac BK267.out 0).trans rfl; have hcz43_1 : w41.cell? ⟨gb267, 1, none⟩ = some (.slice none 0 0) := (zac BK267.out 1).trans rfl; have hcz43_2 : w41.cell? ⟨gb267, 2, none⟩ = some (.string (⟨#[]⟩ : ByteArray)) := (zac BK267.out 2).trans rfl; have hfz43_0 := zab BK267.out 0; have hfz43_1 := zab BK267.out 1; have hfz43_2 := zab BK267.out 2) | (go_at_call 38; (with_reducible refine (zao.calls k4 _ _ ((za5 ((zar l0 x3_1).f3) x5_4).f1) true _ ?side1 ?side2 A38.out).mono ?_); (case side1 => exact Kd.zat HR266_1.out (bl HB.out)); (case side2 => exact HC266_1.out); rintro e w' ⟨rfl, ⟨nd, rfl⟩⟩))
                   go_ret
                   exact ⟨by first | rfl | (simp [zaC, zaD] <;> rfl) | (simp [*, zaC, zaD] <;> rfl), bl HB.out⟩
                  ·
                   replace c39 := Bool.eq_false_iff.mpr c39
                   subst c39
                   have H1 : (zah.l1 k4 l0 x3_1 (wrap64 (x5_4 + 1)) ((zar l0 x3_1).f0) ((zar l0 x3_1).f1) ((zar l0 x3_1).f2) ((zar l0 x3_1).f3)) = some r := by rw [if_neg (show ¬ (false = true) by decide)] at H; exact H
                   clear H
                   have H := H1
                   clear H1
                   have H' := zaa.mk H
                   clear H
                   have hcz44_0 : wr.cell? ⟨gb264, 0, none⟩ = some (.string ((zar l0 x3_1).f0)) := (zac BK264.out 0).trans rfl
                   have hcz44_1 : wr.cell? ⟨gb264, 1, none⟩ = some (.string ((zar l0 x3_1).f1)) := (zac BK264.out 1).trans rfl
                   have hcz44_2 : wr.cell? ⟨gb264, 2, none⟩ = some (.slice A263_2 ((zar l0 x3_1).f2).length c263_2) := (zac BK264.out 2).trans rfl
                   have hcz44_3 : wr.cell? ⟨gb264, 3, none⟩ = some (.slice A263_3 ((zar l0 x3_1).f3).length c263_3) := (zac BK264.out 3).trans rfl
                   have hfz44_0 := zab BK264.out 0
                   have hfz44_1 := zab BK264.out 1
                   have hfz44_2 := zab BK264.out 2
                   have hfz44_3 := zab BK264.out 3
                   have p266 : 0 ≤ (x5_4 : Int) := of_decide_eq_true (by first | (with_reducible assumption) | assumption)
                   have q266 : x5_4 < (((zar l0 x3_1).f3).length : Int) := of_decide_eq_true (by first | (with_reducible assumption) | assumption)
                   obtain ⟨ad266, A266_1, c266_1, e266, hx266_0, hx266_1, hx266_2, hl266_1, hi266_1⟩ := zdA HR263_3.out x5_4 p266 q266
                   cases e266
                   replace hx266_0 := (HB.out.cell (World.block_lt_of_cell? w _ hx266_0)).trans hx266_0
                   replace hx266_1 := (HB.out.cell (World.block_lt_of_cell? w _ hx266_1)).trans hx266_1
                   replace hx266_2 := (HB.out.cell (World.block_lt_of_cell? w _ hx266_2)).trans hx266_2
                   have HR266_1 := zaa.mk hi266_1
                   have HC266_1 := zaa.mk hl266_1
                   clear hi266_1 hl266_1
                   replace p266 := eq_true p266
                   replace q266 := eq_true q266
                   go_wp2_with (first | ((with_reducible refine zaM (N := 6) rfl ?_); (try (refine zck (by rfl) ?_; dsimp only)); refine zbm (N := 6) (cs := #[.string (⟨#[]⟩ : ByteArray), .slice none 0 0, .string (⟨#[]⟩ : ByteArray)]) (t := 61) ?_; intro gb267 hg w45 hbox hb; have BK267 := zaa.mk (hbox); have GW267 := zaa.mk (gw hg (bl HB.out) : w.heap.size ≤ gb267); have GE267 := GW267; have NB264_267 := zaa.mk (nl hg BK264.out : gb264 ≠ gb267); have NB267_264 := zaa.mk (ng hg BK264.out : gb267 ≠ gb264); replace BK264 := zaa.mk (zaw (bk BK264.out) hb); replace HB := zaa.mk (zaq (bl HB.out) hb); clear hb hbox hg; have hnb46 := NB267_264.out; have hnc46 := NB264_267.out; have hcz47_0 : w45.cell? ⟨gb267, 0, none⟩ = some (.string (⟨#[]⟩ : ByteArray)) := (zac BK267.out 0).trans rfl; have hcz47_1 : w45.cell? ⟨gb267, 1, none⟩ = some (.slice none 0 0) := (zac BK267.out 1).trans rfl; have hcz47_2 : w45.cell? ⟨gb267, 2, none⟩ = some (.string (⟨#[]⟩ : ByteArray)) := (zac BK267.out 2).trans rfl; have hfz47_0 := zab BK267.out 0; have hfz47_1 := zab BK267.out 1; have hfz47_2 := zab BK267.out 2) | (go_at_call 38; (with_reducible refine (zao.calls k4 _ _ ((za5 ((zar l0 x3_1).f3) x5_4).f1) false _ ?side1 ?side2 A38.out).mono ?_); (case side1 => exact Kd.zat HR266_1.out (bl HB.out)); (case side2 => exact HC266_1.out); rintro e w' ⟨rfl, ⟨nd, rfl⟩⟩))
                   go_roundg k4
                   case measure => have := HK1.out; have := HJ1.out; have := HJ6.out; have := HK4.out; omega
                   case rel => exact ⟨(wrap64 (x5_4 + 1)), (by first | rfl | (simp; done) | (simp [*]; done)), H', ⟨by have := HK1.out; have := HJ1.out; have := HJ6.out; have := HK4.out; omega⟩, ⟨bp BK264.out⟩, ⟨bl HB.out⟩⟩
              ·
               rw [if_neg c22] at H
               exact absurd H s9
             ·
              rw [if_neg c21] at H
              have c21b0 : decide (x5_4 < (((zar l0 x3_1).f3).length : Int)) = false := decide_eq_false c21
              clear c21
              have H' := zaa.mk H
              clear H
              have hcz48_0 : wr.cell? ⟨gb264, 0, none⟩ = some (.string ((zar l0 x3_1).f0)) := (zac BK264.out 0).trans rfl
              have hcz48_1 : wr.cell? ⟨gb264, 1, none⟩ = some (.string ((zar l0 x3_1).f1)) := (zac BK264.out 1).trans rfl
              have hcz48_2 : wr.cell? ⟨gb264, 2, none⟩ = some (.slice A263_2 ((zar l0 x3_1).f2).length c263_2) := (zac BK264.out 2).trans rfl
              have hcz48_3 : wr.cell? ⟨gb264, 3, none⟩ = some (.slice A263_3 ((zar l0 x3_1).f3).length c263_3) := (zac BK264.out 3).trans rfl
              have hfz48_0 := zab BK264.out 0
              have hfz48_1 := zab BK264.out 1
              have hfz48_2 := zab BK264.out 2
              have hfz48_3 := zab BK264.out 3
              go_wp2
              go_roundg k4
              case measure => have := HK1.out; have := HJ1.out; have := HJ6.out; have := HK4.out; omega
              case rel => exact ⟨(wrap64 (x3_1 + 1)), (by first | rfl | (simp; done) | (simp [*]; done)), H', ⟨by have := HK1.out; have := HJ1.out; have := HJ6.out; have := HK4.out; omega⟩, ⟨bl HB.out⟩⟩
       ·
        rw [if_neg c6] at H
        exact absurd H s9
      ·
       rw [if_neg c5] at H
       exact absurd H s9
     ·
      replace c4 := Bool.eq_false_iff.mpr c4
      subst c4
      have H1 : (some (decide ((l0.length : Int) > 9))) = some r := by rw [if_neg (show ¬ (false = true) by decide)] at H; exact H
      clear H
      have H := H1
      clear H1
      obtain rfl := Option.some.inj H
      go_wp2
      go_ret
      exact ⟨by first | rfl | (simp [zaC, zaD] <;> rfl) | (simp [*, zaC, zaD] <;> rfl), bl HB.out⟩
mutual
def zam.l0 : Nat → Int → Int → Int → Int → ByteArray → List (S35) → Option (Bool)
 | 0, _, _, _, _, _, _ => none
 | k + 1, x3, x270000, x270001, x270002, x270003, x270004 => if x3 < (x270004.length : Int) then (zam.j1 k x3 (decide (x3 < 61)) x270000 x270001 x270002 x270003 x270004) else (zam.j1 k x3 false x270000 x270001 x270002 x270003 x270004)
def zam.j1 : Nat → Int → Bool → Int → Int → Int → ByteArray → List (S35) → Option (Bool)
 | 0, _, _, _, _, _, _, _ => none
 | k + 1, x3, x12, x270000, x270001, x270002, x270003, x270004 => if x12 = true then (if 0 ≤ x3 then (if x3 < (x270004.length : Int) then (if (((za4 x270004 x3).f1).size : Int) > 60 then (some true) else (zam.l0 k (wrap64 (x3 + 1)) x270000 x270001 x270002 x270003 x270004)) else (none)) else (none)) else (if (x270004.length : Int) > 60 then (some true) else (some (decide ((x270003.size : Int) > 60))))
end
def zam.f (k : Nat) (a0_0 : Int) (a0_1 : Int) (a0_2 : Int) (a0_3 : ByteArray) (l0_4 : List (S35)) : Option (Bool) := zam.l0 k 0 a0_0 a0_1 a0_2 a0_3 l0_4
theorem zam.zbY : ∀ k, (∀ y0 y1 y2 y3 y4 y5, LeO (zam.l0 k y0 y1 y2 y3 y4 y5) (zam.l0 (k + 1) y0 y1 y2 y3 y4 y5)) ∧ (∀ y0 y1 y2 y3 y4 y5 y6, LeO (zam.j1 k y0 y1 y2 y3 y4 y5 y6) (zam.j1 (k + 1) y0 y1 y2 y3 y4 y5 y6))
 | 0 => ⟨fun _ _ _ _ _ _ r h => by simp [zam.l0] at h, fun _ _ _ _ _ _ _ r h => by simp [zam.j1] at h⟩
 | k + 1 => by
  obtain ⟨ih0, ih1⟩ := zam.zbY k
  refine ⟨?_, ?_⟩
  ·
   intro y0 y1 y2 y3 y4 y5
   unfold zam.l0
   repeat' first
   | (with_reducible exact ih0 _ _ _ _ _ _)
   | (with_reducible exact ih1 _ _ _ _ _ _ _)
   | (with_reducible exact LeO.refl _)
   | (with_reducible exact LeO.none _)
   | (with_reducible refine LeO.ite ?_ ?_)
   | (with_reducible refine LeO.bind ?_ (fun _ => ?_))
   | exact ih0 _ _ _ _ _ _
   | exact ih1 _ _ _ _ _ _ _
   | exact LeO.none _
   | refine LeO.ite ?_ ?_
   | refine LeO.bind ?_ (fun _ => ?_)
  ·
   intro y0 y1 y2 y3 y4 y5 y6
   unfold zam.j1
   repeat' first
   | (with_reducible exact ih0 _ _ _ _ _ _)
   | (with_reducible exact ih1 _ _ _ _ _ _ _)
   | (with_reducible exact LeO.refl _)
   | (with_reducible exact LeO.none _)
   | (with_reducible refine LeO.ite ?_ ?_)
   | (with_reducible refine LeO.bind ?_ (fun _ => ?_))
   | exact ih0 _ _ _ _ _ _
   | exact ih1 _ _ _ _ _ _ _
   | exact LeO.none _
   | refine LeO.ite ?_ ?_
   | refine LeO.bind ?_ (fun _ => ?_)
theorem zam.mono : ∀ a0 a1 a2 a3 a4 k, LeO (zam.f k a0 a1 a2 a3 a4) (zam.f (k + 1) a0 a1 a2 a3 a4) := by
 intro a0 a1 a2 a3 a4 k
 obtain ⟨ih0, ih1⟩ := zam.zbY k
 unfold zam.f
 repeat' first
   | (with_reducible exact ih0 _ _ _ _ _ _)
   | (with_reducible exact ih1 _ _ _ _ _ _ _)
   | (with_reducible exact LeO.refl _)
   | (with_reducible exact LeO.none _)
   | (with_reducible refine LeO.ite ?_ ?_)
   | (with_reducible refine LeO.bind ?_ (fun _ => ?_))
   | exact ih0 _ _ _ _ _ _
   | exact ih1 _ _ _ _ _ _ _
   | exact LeO.none _
   | refine LeO.ite ?_ ?_
   | refine LeO.bind ?_ (fun _ => ?_)
theorem zam.calls (k : Nat) (a0_0 : Int) (a0_1 : Int) (a0_2 : Int) (a0_3 : ByteArray) (A0_4 : Option Addr) (c0_4 : Nat) (l0_4 : List (S35)) (r : Bool) (w : World) (hr0_4 : Kd.C k35 w A0_4 l0_4.length l0_4) (hc0_4 : l0_4.length ≤ c0_4) (h : zam.f k a0_0 a0_1 a0_2 a0_3 l0_4 = some r) :
  Calls Try.prog 20 #[.agg #[.int .i64 a0_0, .int .i64 a0_1, .int .u64 a0_2, .string a0_3, .slice A0_4 l0_4.length c0_4]] w fun e w' => e = .returned (.bool r) ∧ Below w.heap.size w w' := by
 have hu27 := Try.underlying27
 have HR0_4 := zaa.mk hr0_4
 have HC0_4 := zaa.mk hc0_4
 clear hr0_4 hc0_4
 have HB := zaa.mk (Below.refl w.heap.size w)
 have H : (zam.l0 k 0 a0_0 a0_1 a0_2 a0_3 l0_4) = some r := h
 clear h
 have H' := zaa.mk H
 clear H
 go_enter Try.func20, Try.ntmps20
 go_wp2_with (first | ((with_reducible refine zaM (N := 1) rfl ?_); (try (refine zck (by rfl) ?_; dsimp only)); refine zbm (N := 1) (cs := #[.int .i64 a0_0, .int .i64 a0_1, .int .u64 a0_2, .string a0_3, .slice A0_4 l0_4.length c0_4]) (t := 27) ?_; intro gb269 hg w2 hbox hb; have BK269 := zaa.mk (hbox); have GW269 := zaa.mk (gw hg (bl HB.out) : w.heap.size ≤ gb269); have GE269 := GW269; replace HB := zaa.mk (zaq (bl HB.out) hb); clear hb hbox hg))
 go_loopg [3] k (fun kq v3 w' => ∃ (x3_1 : Int), v3 = .int .i64 x3_1 ∧ zaa (zam.l0 kq x3_1 a0_0 a0_1 a0_2 a0_3 l0_4 = some r) ∧ zaa (kq ≤ k) ∧ zaa (w'.heap[gb269]? = some (.cells #[.int .i64 a0_0, .int .i64 a0_1, .int .u64 a0_2, .string a0_3, (.slice A0_4 l0_4.length c0_4)] 27 (0, 0))) ∧ zaa (Below w.heap.size w w'))
 case atStart => exact ⟨(0), (by first | rfl | (simp; done) | (simp [*]; done)), H', ⟨Nat.le_refl _⟩, ⟨bk BK269.out⟩, ⟨bl HB.out⟩⟩
 case round =>
  clear H'
  try clear c2
  try clear p2
  obtain ⟨x3_1, rfl, HA, HK1, BK269, HB⟩ := hrel
  cases gk with
  | zero => exact absurd HA.out (by simp [zam.l0])
  | succ k1 =>
   have H := HA.out
   clear HA
   simp only [zam.l0] at H
   have HC3 := zaa.mk H
   clear H
   go_upto_region 2 with (fail)
   go_cut [12] (fun v12 wc => ∃ (kq : Nat) (x12_2 : Bool), v12 = .bool x12_2 ∧ zaa (zam.j1 kq x3_1 x12_2 a0_0 a0_1 a0_2 a0_3 l0_4 = some r) ∧ zaa (kq ≤ k1) ∧ zaa (wc.heap[gb269]? = some (.cells #[.int .i64 a0_0, .int .i64 a0_1, .int .u64 a0_2, .string a0_3, (.slice A0_4 l0_4.length c0_4)] 27 (0, 0))) ∧ zaa (Below w.heap.size w wc))
   case first =>
    have H := HC3.out
    clear HC3
    by_cases c4 : x3_1 < (l0_4.length : Int)
    ·
     rw [if_pos c4] at H
     have c4b0 : decide (x3_1 < (l0_4.length : Int)) = true := decide_eq_true c4
     clear c4
     (first | rw [c4b0] | (simp only [i64_w, i32_w]; rw [c4b0]) | skip)
     have H' := zaa.mk H
     clear H
     have hcz5_0 : wr.cell? ⟨gb269, 0, none⟩ = some (.int .i64 a0_0) := (zac BK269.out 0).trans rfl
     have hcz5_1 : wr.cell? ⟨gb269, 1, none⟩ = some (.int .i64 a0_1) := (zac BK269.out 1).trans rfl
     have hcz5_2 : wr.cell? ⟨gb269, 2, none⟩ = some (.int .u64 a0_2) := (zac BK269.out 2).trans rfl
     have hcz5_3 : wr.cell? ⟨gb269, 3, none⟩ = some (.string a0_3) := (zac BK269.out 3).trans rfl
     have hcz5_4 : wr.cell? ⟨gb269, 4, none⟩ = some (.slice A0_4 l0_4.length c0_4) := (zac BK269.out 4).trans rfl
     have hfz5_0 := zab BK269.out 0
     have hfz5_1 := zab BK269.out 1
     have hfz5_2 := zab BK269.out 2
     have hfz5_3 := zab BK269.out 3
     have hfz5_4 := zab BK269.out 4
     go_wp2
     go_meet
     case rel => exact ⟨_, (decide (x3_1 < 61)), (by first | rfl | (simp; done) | (simp [*]; done)), H', ⟨by have := HK1.out; first | omega | exact Nat.le_refl _⟩, ⟨bk BK269.out⟩, ⟨bl HB.out⟩⟩
    ·
     rw [if_neg c4] at H
     have c4b0 : decide (x3_1 < (l0_4.length : Int)) = false := decide_eq_false c4
     clear c4
     (first | rw [c4b0] | (simp only [i64_w, i32_w]; rw [c4b0]) | skip)
     have H' := zaa.mk H
     clear H
     have hcz6_0 : wr.cell? ⟨gb269, 0, none⟩ = some (.int .i64 a0_0) := (zac BK269.out 0).trans rfl
     have hcz6_1 : wr.cell? ⟨gb269, 1, none⟩ = some (.int .i64 a0_1) := (zac BK269.out 1).trans rfl
     have hcz6_2 : wr.cell? ⟨gb269, 2, none⟩ = some (.int .u64 a0_2) := (zac BK269.out 2).trans rfl
     have hcz6_3 : wr.cell? ⟨gb269, 3, none⟩ = some (.string a0_3) := (zac BK269.out 3).trans rfl
     have hcz6_4 : wr.cell? ⟨gb269, 4, none⟩ = some (.slice A0_4 l0_4.length c0_4) := (zac BK269.out 4).trans rfl
     have hfz6_0 := zab BK269.out 0
     have hfz6_1 := zab BK269.out 1
     have hfz6_2 := zab BK269.out 2
     have hfz6_3 := zab BK269.out 3
     have hfz6_4 := zab BK269.out 4
     go_wp2
     go_meet
     case rel => exact ⟨_, (false), (by first | rfl | (simp; done) | (simp [*]; done)), H', ⟨by have := HK1.out; first | omega | exact Nat.le_refl _⟩, ⟨bk BK269.out⟩, ⟨bl HB.out⟩⟩
   case rest =>
    clear HC3
    try clear c2
    try clear p2
    try clear c4
    try clear c4b0
    try clear hcz5_0
    try clear hcz5_1
    try clear hcz5_2
    try clear hcz5_3
    try clear hcz5_4
    try clear hcz6_0
    try clear hcz6_1
    try clear hcz6_2
    try clear hcz6_3
    try clear hcz6_4
    try clear hfz5_0
    try clear hfz5_1
    try clear hfz5_2
    try clear hfz5_3
    try clear hfz5_4
    try clear hfz6_0
    try clear hfz6_1
    try clear hfz6_2
    try clear hfz6_3
    try clear hfz6_4
    try clear p2
    obtain ⟨kq, x12_2, rfl, HA, HJ2, BK269, HB⟩ := hcut
    cases kq with
    | zero => exact absurd HA.out (by simp [zam.j1])
    | succ kj2 =>
     have H := HA.out
     clear HA
     simp only [zam.j1] at H
     by_cases c7 : x12_2 = true
     ·
      subst c7
      have H1 : (if 0 ≤ x3_1 then (if x3_1 < (l0_4.length : Int) then (if (((za4 l0_4 x3_1).f1).size : Int) > 60 then (some true) else (zam.l0 kj2 (wrap64 (x3_1 + 1)) a0_0 a0_1 a0_2 a0_3 l0_4)) else (none)) else (none)) = some r := by rw [if_pos rfl] at H; exact H
      clear H
      have H := H1
      clear H1
      by_cases c8 : 0 ≤ x3_1
      ·
       rw [if_pos c8] at H
       have c8b0 : decide (0 ≤ x3_1) = true := decide_eq_true c8
       clear c8
       by_cases c9 : x3_1 < (l0_4.length : Int)
       ·
        rw [if_pos c9] at H
        have c9b0 : decide (x3_1 < (l0_4.length : Int)) = true := decide_eq_true c9
        clear c9
        by_cases c10 : (((za4 l0_4 x3_1).f1).size : Int) > 60
        ·
         rw [if_pos c10] at H
         have c10b0 : decide (60 < (((za4 l0_4 x3_1).f1).size : Int)) = true := decide_eq_true c10
         have c10b1 : decide (60 < ((za4 l0_4 x3_1).f1).size) = true := decide_eq_true o9
         clear c10
         obtain rfl := Option.some.inj H
         have hcz11_0 : wc.cell? ⟨gb269, 0, none⟩ = some (.int .i64 a0_0) := (zac BK269.out 0).trans rfl
         have hcz11_1 : wc.cell? ⟨gb269, 1, none⟩ = some (.int .i64 a0_1) := (zac BK269.out 1).trans rfl
         have hcz11_2 : wc.cell? ⟨gb269, 2, none⟩ = some (.int .u64 a0_2) := (zac BK269.out 2).trans rfl
         have hcz11_3 : wc.cell? ⟨gb269, 3, none⟩ = some (.string a0_3) := (zac BK269.out 3).trans rfl
         have hcz11_4 : wc.cell? ⟨gb269, 4, none⟩ = some (.slice A0_4 l0_4.length c0_4) := (zac BK269.out 4).trans rfl
         have hfz11_0 := zab BK269.out 0
         have hfz11_1 := zab BK269.out 1
         have hfz11_2 := zab BK269.out 2
         have hfz11_3 := zab BK269.out 3
         have hfz11_4 := zab BK269.out 4
         have p270 : 0 ≤ (x3_1 : Int) := of_decide_eq_true (by first | (with_reducible assumption) | assumption)
         have q270 : x3_1 < (l0_4.length : Int) := of_decide_eq_true (by first | (with_reducible assumption) | assumption)
         obtain ⟨ad270, e270, hx270_0, hx270_1, hx270_2⟩ := zc9 HR0_4.out x3_1 p270 q270
         cases e270
         replace hx270_0 := (HB.out.cell (World.block_lt_of_cell? w _ hx270_0)).trans hx270_0
         replace hx270_1 := (HB.out.cell (World.block_lt_of_cell? w _ hx270_1)).trans hx270_1
         replace hx270_2 := (HB.out.cell (World.block_lt_of_cell? w _ hx270_2)).trans hx270_2
         replace p270 := eq_true p270
         replace q270 := eq_true q270
         go_wp2
         go_ret
         exact ⟨by first | rfl | (simp [zaC, zaD] <;> rfl) | (simp [*, zaC, zaD] <;> rfl), bl HB.out⟩
        ·
         rw [if_neg c10] at H
         have c10b0 : decide (60 < (((za4 l0_4 x3_1).f1).size : Int)) = false := decide_eq_false c10
         have c10b1 : decide (60 < ((za4 l0_4 x3_1).f1).size) = false := decide_eq_false o9
         clear c10
         have H' := zaa.mk H
         clear H
         have hcz12_0 : wc.cell? ⟨gb269, 0, none⟩ = some (.int .i64 a0_0) := (zac BK269.out 0).trans rfl
         have hcz12_1 : wc.cell? ⟨gb269, 1, none⟩ = some (.int .i64 a0_1) := (zac BK269.out 1).trans rfl
         have hcz12_2 : wc.cell? ⟨gb269, 2, none⟩ = some (.int .u64 a0_2) := (zac BK269.out 2).trans rfl
         have hcz12_3 : wc.cell? ⟨gb269, 3, none⟩ = some (.string a0_3) := (zac BK269.out 3).trans rfl
         have hcz12_4 : wc.cell? ⟨gb269, 4, none⟩ = some (.slice A0_4 l0_4.length c0_4) := (zac BK269.out 4).trans rfl
         have hfz12_0 := zab BK269.out 0
         have hfz12_1 := zab BK269.out 1
         have hfz12_2 := zab BK269.out 2
         have hfz12_3 := zab BK269.out 3
         have hfz12_4 := zab BK269.out 4
         have p270 : 0 ≤ (x3_1 : Int) := of_decide_eq_true (by first | (with_reducible assumption) | assumption)
         have q270 : x3_1 < (l0_4.length : Int) := of_decide_eq_true (by first | (with_reducible assumption) | assumption)
         obtain ⟨ad270, e270, hx270_0, hx270_1, hx270_2⟩ := zc9 HR0_4.out x3_1 p270 q270
         cases e270
         replace hx270_0 := (HB.out.cell (World.block_lt_of_cell? w _ hx270_0)).trans hx270_0
         replace hx270_1 := (HB.out.cell (World.block_lt_of_cell? w _ hx270_1)).trans hx270_1
         replace hx270_2 := (HB.out.cell (World.block_lt_of_cell? w _ hx270_2)).trans hx270_2
         replace p270 := eq_true p270
         replace q270 := eq_true q270
         go_wp2
         go_roundg kj2
         case measure => have := HK1.out; have := HJ2.out; omega
         case rel => exact ⟨(wrap64 (x3_1 + 1)), (by first | rfl | (simp; done) | (simp [*]; done)), H', ⟨by have := HK1.out; have := HJ2.out; omega⟩, ⟨bk BK269.out⟩, ⟨bl HB.out⟩⟩
       ·
        rw [if_neg c9] at H
        exact absurd H s9
      ·
       rw [if_neg c8] at H
       exact absurd H s9
     ·
      replace c7 := Bool.eq_false_iff.mpr c7
      subst c7
      have H1 : (if (l0_4.length : Int) > 60 then (some true) else (some (decide ((a0_3.size : Int) > 60)))) = some r := by rw [if_neg (show ¬ (false = true) by decide)] at H; exact H
      clear H
      have H := H1
      clear H1
      by_cases c13 : (l0_4.length : Int) > 60
      ·
       rw [if_pos c13] at H
       have c13b0 : decide (60 < (l0_4.length : Int)) = true := decide_eq_true c13
       have c13b1 : decide (60 < l0_4.length) = true := decide_eq_true o9
       clear c13
       obtain rfl := Option.some.inj H
       have hcz14_0 : wc.cell? ⟨gb269, 0, none⟩ = some (.int .i64 a0_0) := (zac BK269.out 0).trans rfl
       have hcz14_1 : wc.cell? ⟨gb269, 1, none⟩ = some (.int .i64 a0_1) := (zac BK269.out 1).trans rfl
       have hcz14_2 : wc.cell? ⟨gb269, 2, none⟩ = some (.int .u64 a0_2) := (zac BK269.out 2).trans rfl
       have hcz14_3 : wc.cell? ⟨gb269, 3, none⟩ = some (.string a0_3) := (zac BK269.out 3).trans rfl
       have hcz14_4 : wc.cell? ⟨gb269, 4, none⟩ = some (.slice A0_4 l0_4.length c0_4) := (zac BK269.out 4).trans rfl
       have hfz14_0 := zab BK269.out 0
       have hfz14_1 := zab BK269.out 1
       have hfz14_2 := zab BK269.out 2
       have hfz14_3 := zab BK269.out 3
       have hfz14_4 := zab BK269.out 4
       go_wp2
       go_ret
       exact ⟨by first | rfl | (simp [zaC, zaD] <;> rfl) | (simp [*, zaC, zaD] <;> rfl), bl HB.out⟩
      ·
       rw [if_neg c13] at H
       have c13b0 : decide (60 < (l0_4.length : Int)) = false := decide_eq_false c13
       have c13b1 : decide (60 < l0_4.length) = false := decide_eq_false o9
       clear c13
       obtain rfl := Option.some.inj H
       have hcz15_0 : wc.cell? ⟨gb269, 0, none⟩ = some (.int .i64 a0_0) := (zac BK269.out 0).trans rfl
       have hcz15_1 : wc.cell? ⟨gb269, 1, none⟩ = some (.int .i64 a0_1) := (zac BK269.out 1).trans rfl
       have hcz15_2 : wc.cell? ⟨gb269, 2, none⟩ = some (.int .u64 a0_2) := (zac BK269.out 2).trans rfl
       have hcz15_3 : wc.cell? ⟨gb269, 3, none⟩ = some (.string a0_3) := (zac BK269.out 3).trans rfl
       have hcz15_4 : wc.cell? ⟨gb269, 4, none⟩ = some (.slice A0_4 l0_4.length c0_4) := (zac BK269.out 4).trans rfl
       have hfz15_0 := zab BK269.out 0
       have hfz15_1 := zab BK269.out 1
       have hfz15_2 := zab BK269.out 2
       have hfz15_3 := zab BK269.out 3
       have hfz15_4 := zab BK269.out 4
       go_wp2
       go_ret
       exact ⟨by first | rfl | (simp [zaC, zaD] <;> rfl) | (simp [*, zaC, zaD] <;> rfl), bl HB.out⟩
def zbH.f (a0_0 : Int) (a0_1 : Int) (a0_2 : Int) (a0_3 : ByteArray) (l0_4 : List (S35)) : Option (Int × Int × Int × ByteArray × (List (S35))) := (zaB.f l0_4).bind fun t274 => (some (a0_0, a0_1, a0_2, a0_3, t274))
theorem zbH.calls (a0_0 : Int) (a0_1 : Int) (a0_2 : Int) (a0_3 : ByteArray) (A0_4 : Option Addr) (c0_4 : Nat) (l0_4 : List (S35)) (r1 : Int) (r2 : Int) (r3 : Int) (r4 : ByteArray) (r5 : List (S35)) (w : World) (hr0_4 : Kd.C k35 w A0_4 l0_4.length l0_4) (hc0_4 : l0_4.length ≤ c0_4) (h : zbH.f a0_0 a0_1 a0_2 a0_3 l0_4 = some (r1, r2, r3, r4, r5)) :
  Calls Try.prog 22 #[.agg #[.int .i64 a0_0, .int .i64 a0_1, .int .u64 a0_2, .string a0_3, .slice A0_4 l0_4.length c0_4]] w fun e w' => ∃ v4_ : Value, e = .returned (.agg #[.int .i64 r1, .int .i64 r2, .int .u64 r3, .string r4, v4_]) ∧ Kd.R k35 35 w' w.heap.size (fun _ => True) v4_ r5 ∧ Below w.heap.size w w' := by
 have hu27 := Try.underlying27
 have HR0_4 := zaa.mk hr0_4
 have HC0_4 := zaa.mk hc0_4
 clear hr0_4 hc0_4
 have HB := zaa.mk (Below.refl w.heap.size w)
 have H : ((zaB.f l0_4).bind fun t274 => (some (a0_0, a0_1, a0_2, a0_3, t274))) = some (r1, r2, r3, r4, r5) := h
 clear h
 replace H := Option.bind_eq_some_iff.mp H
 obtain ⟨t274, A20, H⟩ := H
 replace H : (some (a0_0, a0_1, a0_2, a0_3, t274)) = some (r1, r2, r3, r4, r5) := H
 have A2 := zaa.mk A20
 clear A20
 simp only [Option.some.injEq, Prod.mk.injEq] at H
 obtain ⟨rfl, rfl, rfl, rfl, rfl⟩ := H
 go_enter Try.func22, Try.ntmps22
 go_wp2_with (first | ((with_reducible refine zaM (N := 1) rfl ?_); refine zbm (N := 1) (cs := #[.int .i64 a0_0, .int .i64 a0_1, .int .u64 a0_2, .string a0_3, .slice A0_4 l0_4.length c0_4]) (t := 27) ?_; intro gb272 hg w3 hbox hb; have BK272 := zaa.mk (hbox); have GW272 := zaa.mk (gw hg (bl HB.out) : w.heap.size ≤ gb272); have GE272 := GW272; replace HB := zaa.mk (zaq (bl HB.out) hb); clear hb hbox hg) | ((with_reducible refine zaM (N := 2) rfl ?_); refine zbm (N := 2) (cs := #[.int .i64 0, .int .i64 0, .int .u64 0, .string (⟨#[]⟩ : ByteArray), .slice none 0 0]) (t := 27) ?_; intro gb273 hg w4 hbox hb; have BK273 := zaa.mk (hbox); have GW273 := zaa.mk (gw hg (bl HB.out) : w.heap.size ≤ gb273); have GE273 := GW273; have NB272_273 := zaa.mk (nl hg BK272.out : gb272 ≠ gb273); have NB273_272 := zaa.mk (ng hg BK272.out : gb273 ≠ gb272); replace BK272 := zaa.mk (zaw (bk BK272.out) hb); replace HB := zaa.mk (zaq (bl HB.out) hb); clear hb hbox hg; have hnb5 := NB272_273.out; have hnc5 := NB273_272.out; have hcz6_0 : w4.cell? ⟨gb272, 0, none⟩ = some (.int .i64 a0_0) := (zac BK272.out 0).trans rfl; have hcz6_1 : w4.cell? ⟨gb272, 1, none⟩ = some (.int .i64 a0_1) := (zac BK272.out 1).trans rfl; have hcz6_2 : w4.cell? ⟨gb272, 2, none⟩ = some (.int .u64 a0_2) := (zac BK272.out 2).trans rfl; have hcz6_3 : w4.cell? ⟨gb272, 3, none⟩ = some (.string a0_3) := (zac BK272.out 3).trans rfl; have hcz6_4 : w4.cell? ⟨gb272, 4, none⟩ = some (.slice A0_4 l0_4.length c0_4) := (zac BK272.out 4).trans rfl; have hfz6_0 := zab BK272.out 0; have hfz6_1 := zab BK272.out 1; have hfz6_2 := zab BK272.out 2; have hfz6_3 := zab BK272.out 3; have hfz6_4 := zab BK272.out 4) | ((with_reducible refine za1 (f := 39) rfl ?_); refine zbW (some 5) rfl rfl Try.func39 k9 rfl #[.slice A0_4 l0_4.length c0_4] rfl m9 ?_; (with_reducible refine (zaB.calls _ _ l0_4 t274 _ ?side1 ?side2 A2.out).mono ?_); (case side1 => repeat (first | exact (Kd.zat HR0_4.out HB.out) | (with_reducible refine Kd.zbv ?_ _) | (with_reducible refine Kd.zbB ?_ _) | (with_reducible refine Kd.zbw ?_))); (case side2 => exact HC0_4.out); rintro e w7 ⟨v275, rfl, ho0, hb⟩; refine ⟨_, rfl, ?_⟩; have HO276 := zaa.mk (Kd.zbg ho0 (zaP (bl HB.out))); replace BK272 := zaa.mk (zaw (bk BK272.out) hb); replace BK273 := zaa.mk (zaw (bk BK273.out) hb); replace HB := zaa.mk (zaq (bl HB.out) hb); (try clear hb); (try clear hb2); (try clear hk); (try clear hi); (try clear ho0); obtain ⟨Ao8, co8, eo8⟩ := Kd.zbh HO276.out; subst eo8; have hcz9_0 : w7.cell? ⟨gb272, 0, none⟩ = some (.int .i64 a0_0) := (zac BK272.out 0).trans rfl; have hcz9_1 : w7.cell? ⟨gb272, 1, none⟩ = some (.int .i64 a0_1) := (zac BK272.out 1).trans rfl; have hcz9_2 : w7.cell? ⟨gb272, 2, none⟩ = some (.int .u64 a0_2) := (zac BK272.out 2).trans rfl; have hcz9_3 : w7.cell? ⟨gb272, 3, none⟩ = some (.string a0_3) := (zac BK272.out 3).trans rfl; have hcz9_4 : w7.cell? ⟨gb272, 4, none⟩ = some (.slice A0_4 l0_4.length c0_4) := (zac BK272.out 4).trans rfl; have hfz9_0 := zab BK272.out 0; have hfz9_1 := zab BK272.out 1; have hfz9_2 := zab BK272.out 2; have hfz9_3 := zab BK272.out 3; have hfz9_4 := zab BK272.out 4; have hcz10_0 : w7.cell? ⟨gb273, 0, none⟩ = some (.int .i64 0) := (zac BK273.out 0).trans rfl; have hcz10_1 : w7.cell? ⟨gb273, 1, none⟩ = some (.int .i64 0) := (zac BK273.out 1).trans rfl; have hcz10_2 : w7.cell? ⟨gb273, 2, none⟩ = some (.int .u64 0) := (zac BK273.out 2).trans rfl; have hcz10_3 : w7.cell? ⟨gb273, 3, none⟩ = some (.string (⟨#[]⟩ : ByteArray)) := (zac BK273.out 3).trans rfl; have hcz10_4 : w7.cell? ⟨gb273, 4, none⟩ = some (.slice none 0 0) := (zac BK273.out 4).trans rfl; have hfz10_0 := zab BK273.out 0; have hfz10_1 := zab BK273.out 1; have hfz10_2 := zab BK273.out 2; have hfz10_3 := zab BK273.out 3; have hfz10_4 := zab BK273.out 4))
 refine bodyPost_ret (results_cell_row rfl _ _ gb273 27 #[.int .i64 a0_0, .int .i64 a0_1, .int .u64 a0_2, .string a0_3, .slice Ao8 t274.length co8] (0, 0) _ rfl (bp BK273.out) Try.underlying27 rfl k9) rfl ?_
 exact ⟨_, by first | rfl | (simp [zaC, zaD] <;> rfl) | (simp [*, zaC, zaD] <;> rfl), by (with_reducible repeat (first | apply Kd.zbo | apply Kd.zbx | apply Kd.zbN)); exact Kd.zaY (Kd.R_far (p := ⟨gb273, 4, none⟩) (Kd.R_far (p := ⟨gb273, 3, none⟩) (Kd.R_far (p := ⟨gb273, 2, none⟩) (Kd.R_far (p := ⟨gb273, 1, none⟩) (Kd.R_far (p := ⟨gb273, 0, none⟩) (Kd.R_far (p := ⟨gb272, 4, none⟩) (Kd.zbK (Kd.zbK HO276.out BK272.out d9) BK273.out d9) (fun _ hk => hk.1.2) (.slice Ao8 t274.length co8)) (fun _ hk => hk.2) (.int .i64 a0_0)) (fun _ hk => hk.2) (.int .i64 a0_1)) (fun _ hk => hk.2) (.int .u64 a0_2)) (fun _ hk => hk.2) (.string a0_3)) (fun _ hk => hk.2) (.slice Ao8 t274.length co8)) (fun _ hk => trivial), bl HB.out⟩
end Go.Proofs.Ytinkbljjpafadaa.PAll
end

section
namespace Go.Proofs.Ytinkbljjpafadaa.PAll
open Go.RowKit Go.Proofs.YtinkbljjpafadaaW.PrintWords Go.Proofs.YtinkbljjpafadaaW.PrintLast Go.Proofs.YtinkbljjpafadaaW.zaT
attribute [local go_sem] zba zbc zbn zbl zaZ zaX za8 zbb
attribute [local go_sem high] eqA33
mutual
def zaj.l0 : Nat → List (S33) → List (S33) → Int → Option (Bool)
 | 0, _, _, _ => none
 | k + 1, x0, x1, x5 => if x5 < (x0.length : Int) then (zaj.l1 k x0 x1 x5 false 0) else (some true)
def zaj.l1 : Nat → List (S33) → List (S33) → Int → Bool → Int → Option (Bool)
 | 0, _, _, _, _, _ => none
 | k + 1, x0, x1, x5, x6, x7 => if x7 < (x1.length : Int) then (if x6 = true then (zaj.l1 k x0 x1 x5 true (wrap64 (x7 + 1))) else (if 0 ≤ x5 then (if x5 < (x0.length : Int) then (if 0 ≤ x7 then (zaj.l1 k x0 x1 x5 ((((zbz x0 x5).f0).toList) == (((zbz x1 x7).f0).toList) && (((zbz x0 x5).f1) == ((zbz x1 x7).f1))) (wrap64 (x7 + 1))) else (none)) else (none)) else (none))) else (if x6 = true then (zaj.l0 k x0 x1 (wrap64 (x5 + 1))) else (some false))
end
def zaj.f (k : Nat) (l0 : List (S33)) (l1 : List (S33)) : Option (Bool) := zaj.l0 k l0 l1 0
theorem zaj.zbY : ∀ k, (∀ y0 y1 y2, LeO (zaj.l0 k y0 y1 y2) (zaj.l0 (k + 1) y0 y1 y2)) ∧ (∀ y0 y1 y2 y3 y4, LeO (zaj.l1 k y0 y1 y2 y3 y4) (zaj.l1 (k + 1) y0 y1 y2 y3 y4))
 | 0 => ⟨fun _ _ _ r h => by simp [zaj.l0] at h, fun _ _ _ _ _ r h => by simp [zaj.l1] at h⟩
 | k + 1 => by
  obtain ⟨ih0, ih1⟩ := zaj.zbY k
  refine ⟨?_, ?_⟩
  ·
   intro y0 y1 y2
   unfold zaj.l0
   repeat' first
   | (with_reducible exact ih0 _ _ _)
   | (with_reducible exact ih1 _ _ _ _ _)
   | (with_reducible exact LeO.refl _)
   | (with_reducible exact LeO.none _)
   | (with_reducible refine LeO.ite ?_ ?_)
   | (with_reducible refine LeO.bind ?_ (fun _ => ?_))
   | exact ih0 _ _ _
   | exact ih1 _ _ _ _ _
   | exact LeO.none _
   | refine LeO.ite ?_ ?_
   | refine LeO.bind ?_ (fun _ => ?_)
  ·
   intro y0 y1 y2 y3 y4
   unfold zaj.l1
   repeat' first
   | (with_reducible exact ih0 _ _ _)
   | (with_reducible exact ih1 _ _ _ _ _)
   | (with_reducible exact LeO.refl _)
   | (with_reducible exact LeO.none _)
   | (with_reducible refine LeO.ite ?_ ?_)
   | (with_reducible refine LeO.bind ?_ (fun _ => ?_))
   | exact ih0 _ _ _
   | exact ih1 _ _ _ _ _
   | exact LeO.none _
   | refine LeO.ite ?_ ?_
   | refine LeO.bind ?_ (fun _ => ?_)
theorem zaj.mono : ∀ a0 a1 k, LeO (zaj.f k a0 a1) (zaj.f (k + 1) a0 a1) := by
 intro a0 a1 k
 obtain ⟨ih0, ih1⟩ := zaj.zbY k
 unfold zaj.f
 repeat' first
   | (with_reducible exact ih0 _ _ _)
   | (with_reducible exact ih1 _ _ _ _ _)
   | (with_reducible exact LeO.refl _)
   | (with_reducible exact LeO.none _)
   | (with_reducible refine LeO.ite ?_ ?_)
   | (with_reducible refine LeO.bind ?_ (fun _ => ?_))
   | exact ih0 _ _ _
   | exact ih1 _ _ _ _ _
   | exact LeO.none _
   | refine LeO.ite ?_ ?_
   | refine LeO.bind ?_ (fun _ => ?_)
theorem zaj.calls (k : Nat) (A0 : Option Addr) (c0 : Nat) (l0 : List (S33)) (A1 : Option Addr) (c1 : Nat) (l1 : List (S33)) (r : Bool) (w : World) (hr0 : Kd.C k33 w A0 l0.length l0) (hc0 : l0.length ≤ c0) (hr1 : Kd.C k33 w A1 l1.length l1) (hc1 : l1.length ≤ c1) (h : zaj.f k l0 l1 = some r) :
  Calls Try.prog 26 #[.slice A0 l0.length c0, .slice A1 l1.length c1] w fun e w' => e = .returned (.bool r) ∧ za6 w w' := by
 have hu33 := Try.underlying33
 have HR0 := zaa.mk hr0
 have HC0 := zaa.mk hc0
 clear hr0 hc0
 have HR1 := zaa.mk hr1
 have HC1 := zaa.mk hc1
 clear hr1 hc1
 have H : (zaj.l0 k l0 l1 0) = some r := h
 clear h
 have H' := zaa.mk H
 clear H
 go_enter Try.func26, Try.ntmps26
 go_wp2
 repeat (go_quiet (fail); try go_wp2)
 go_loopg [5] k (fun kq v5 w' => ∃ (x5_1 : Int), v5 = .int .i64 x5_1 ∧ zaa (zaj.l0 kq l0 l1 x5_1 = some r) ∧ zaa (kq ≤ k) ∧ za6 w w')
 case atStart => exact ⟨(0), (by first | rfl | (simp; done) | (simp [*]; done)), H', ⟨Nat.le_refl _⟩, by repeat (first | exact za6.refl _ | apply za6.step)⟩
 case round =>
  clear H'
  try clear c1
  try clear c2
  try clear p2
  obtain ⟨x5_1, rfl, HA, HK1, ⟨m1, rfl⟩⟩ := hrel
  cases gk with
  | zero => exact absurd HA.out (by simp [zaj.l0])
  | succ k1 =>
   have H := HA.out
   clear HA
   simp only [zaj.l0] at H
   by_cases c3 : x5_1 < (l0.length : Int)
   ·
    rw [if_pos c3] at H
    have c3b0 : decide (x5_1 < (l0.length : Int)) = true := decide_eq_true c3
    clear c3
    have H' := zaa.mk H
    clear H
    go_wp2
    repeat (go_quiet (fail); try go_wp2)
    go_loopg [6, 7] k1 (fun kq v6 v7 w' => ∃ (x6_2 : Bool) (x7_2 : Int), v6 = .bool x6_2 ∧ v7 = .int .i64 x7_2 ∧ zaa (zaj.l1 kq l0 l1 x5_1 x6_2 x7_2 = some r) ∧ zaa (kq ≤ k1) ∧ za6 w w')
    case atStart => exact ⟨(false), (0), (by first | rfl | (simp; done) | (simp [*]; done)), (by first | rfl | (simp; done) | (simp [*]; done)), H', ⟨Nat.le_refl _⟩, by repeat (first | exact za6.refl _ | apply za6.step)⟩
    case round =>
     clear H'
     try clear c1
     try clear c2
     try clear p2
     try clear c3
     try clear c3b0
     try clear p2
     obtain ⟨x6_2, x7_2, rfl, rfl, HA, HK2, ⟨m2, rfl⟩⟩ := hrel
     cases gk with
     | zero => exact absurd HA.out (by simp [zaj.l1])
     | succ k2 =>
      have H := HA.out
      clear HA
      simp only [zaj.l1] at H
      by_cases c4 : x7_2 < (l1.length : Int)
      ·
       rw [if_pos c4] at H
       have c4b0 : decide (x7_2 < (l1.length : Int)) = true := decide_eq_true c4
       clear c4
       by_cases c5 : x6_2 = true
       ·
        subst c5
        have H1 : (zaj.l1 k2 l0 l1 x5_1 true (wrap64 (x7_2 + 1))) = some r := by rw [if_pos rfl] at H; exact H
        clear H
        have H := H1
        clear H1
        have H' := zaa.mk H
        clear H
        go_wp2
        repeat (go_quiet (fail); try go_wp2)
        go_roundg k2
        case measure => have := HK1.out; have := HK2.out; omega
        case rel => exact ⟨(true), (wrap64 (x7_2 + 1)), (by first | rfl | (simp; done) | (simp [*]; done)), (by first | rfl | (simp; done) | (simp [*]; done)), H', ⟨by have := HK1.out; have := HK2.out; omega⟩, by repeat (first | exact za6.refl _ | apply za6.step)⟩
       ·
        replace c5 := Bool.eq_false_iff.mpr c5
        subst c5
        have H1 : (if 0 ≤ x5_1 then (if x5_1 < (l0.length : Int) then (if 0 ≤ x7_2 then (zaj.l1 k2 l0 l1 x5_1 ((((zbz l0 x5_1).f0).toList) == (((zbz l1 x7_2).f0).toList) && (((zbz l0 x5_1).f1) == ((zbz l1 x7_2).f1))) (wrap64 (x7_2 + 1))) else (none)) else (none)) else (none)) = some r := by rw [if_neg (show ¬ (false = true) by decide)] at H; exact H
        clear H
        have H := H1
        clear H1
        by_cases c6 : 0 ≤ x5_1
        ·
         rw [if_pos c6] at H
         have c6b0 : decide (0 ≤ x5_1) = true := decide_eq_true c6
         clear c6
         by_cases c7 : x5_1 < (l0.length : Int)
         ·
          rw [if_pos c7] at H
          have c7b0 : decide (x5_1 < (l0.length : Int)) = true := decide_eq_true c7
          clear c7
          by_cases c8 : 0 ≤ x7_2
          ·
           rw [if_pos c8] at H
           have c8b0 : decide (0 ≤ x7_2) = true := decide_eq_true c8
           clear c8
           have H' := zaa.mk H
           clear H
           have p289 : 0 ≤ (x5_1 : Int) := of_decide_eq_true (by first | (with_reducible assumption) | assumption)
           have q289 : x5_1 < (l0.length : Int) := of_decide_eq_true (by first | (with_reducible assumption) | assumption)
           obtain ⟨ad289, e289, hx289_0, hx289_1⟩ := zdL HR0.out x5_1 p289 q289
           cases e289
           replace p289 := eq_true p289
           replace q289 := eq_true q289
           have p290 : 0 ≤ (x7_2 : Int) := of_decide_eq_true (by first | (with_reducible assumption) | assumption)
           have q290 : x7_2 < (l1.length : Int) := of_decide_eq_true (by first | (with_reducible assumption) | assumption)
           obtain ⟨ad290, e290, hx290_0, hx290_1⟩ := zdL HR1.out x7_2 p290 q290
           cases e290
           replace p290 := eq_true p290
           replace q290 := eq_true q290
           go_wp2
           repeat (go_quiet (fail); try go_wp2)
           go_roundg k2
           case measure => have := HK1.out; have := HK2.out; omega
           case rel => exact ⟨(((((zbz l0 x5_1).f0).toList) == (((zbz l1 x7_2).f0).toList) && (((zbz l0 x5_1).f1) == ((zbz l1 x7_2).f1)))), (wrap64 (x7_2 + 1)), (by first | rfl | (simp; done) | (simp [*]; done)), (by first | rfl | (simp; done) | (simp [*]; done)), H', ⟨by have := HK1.out; have := HK2.out; omega⟩, by repeat (first | exact za6.refl _ | apply za6.step)⟩
          ·
           rw [if_neg c8] at H
           exact absurd H s9
         ·
          rw [if_neg c7] at H
          exact absurd H s9
        ·
         rw [if_neg c6] at H
         exact absurd H s9
      ·
       rw [if_neg c4] at H
       have c4b0 : decide (x7_2 < (l1.length : Int)) = false := decide_eq_false c4
       clear c4
       by_cases c9 : x6_2 = true
       ·
        subst c9
        have H1 : (zaj.l0 k2 l0 l1 (wrap64 (x5_1 + 1))) = some r := by rw [if_pos rfl] at H; exact H
        clear H
        have H := H1
        clear H1
        have H' := zaa.mk H
        clear H
        go_wp2
        repeat (go_quiet (fail); try go_wp2)
        go_roundg k2
        case measure => have := HK1.out; have := HK2.out; omega
        case rel => exact ⟨(wrap64 (x5_1 + 1)), (by first | rfl | (simp; done) | (simp [*]; done)), H', ⟨by have := HK1.out; have := HK2.out; omega⟩, by repeat (first | exact za6.refl _ | apply za6.step)⟩
       ·
        replace c9 := Bool.eq_false_iff.mpr c9
        subst c9
        have H1 : (some false) = some r := by rw [if_neg (show ¬ (false = true) by decide)] at H; exact H
        clear H
        have H := H1
        clear H1
        obtain rfl := Option.some.inj H
        go_wp2
        repeat (go_quiet (fail); try go_wp2)
        go_ret
        exact ⟨by first | rfl | (simp; done) | (simp [*]; done), by repeat (first | exact za6.refl _ | apply za6.step)⟩
   ·
    rw [if_neg c3] at H
    have c3b0 : decide (x5_1 < (l0.length : Int)) = false := decide_eq_false c3
    clear c3
    obtain rfl := Option.some.inj H
    go_wp2
    repeat (go_quiet (fail); try go_wp2)
    go_ret
    exact ⟨by first | rfl | (simp; done) | (simp [*]; done), by repeat (first | exact za6.refl _ | apply za6.step)⟩
end Go.Proofs.Ytinkbljjpafadaa.PAll
end

section
namespace Go.Proofs.Ytinkbljjpafadaa.PAll
open Go.RowKit Go.Proofs.YtinkbljjpafadaaW.PrintWords Go.Proofs.YtinkbljjpafadaaW.PrintLast Go.Proofs.YtinkbljjpafadaaW.zaT
attribute [local go_sem] zba zbc zbn zbl zaZ zaX za8 zbb
def chaperonlaw16_CoerceShrinks.f (k : Nat) (l0 : List (S64)) (a1_0 : Int) (a1_1 : Int) (a1_2 : Int) (a1_3 : ByteArray) (l1_4 : List (S35)) (a2 : ByteArray) (a3 : ByteArray) (a4 : Int) (a5 : Bool) : Option Bool := (zaE.f k).bind fun bF3 => (zah.f k l0).bind fun bF5 => ((if (!bF5) = true then zam.f k a1_0 a1_1 a1_2 a1_3 l1_4 else some (false))).bind fun bF7 => (if ((((bF5 || bF7) || (decide ((a2.size : Int) > 60))) || (decide ((a3.size : Int) > 60))) || (a4 == 0)) = true then some (bF3) else ((if a5 = true then (zbH.f a1_0 a1_1 a1_2 a1_3 l1_4).bind fun bF13 => some (bF13.1, bF13.2.1, bF13.2.2.1, bF13.2.2.2.1, bF13.2.2.2.2) else some (a1_0, a1_1, a1_2, a1_3, l1_4))).bind fun bJ70 => (zbA.f k l0 bJ70.1 bJ70.2.1 bJ70.2.2.1 bJ70.2.2.2.1 bJ70.2.2.2.2 a2 a3 a4 a5).bind fun bF25 => (if (bJ70.1 != 7) = true then ((if (bF3 && (bF25.2.2.2.2.2 == a4)) = true then zan.f k bF25.1 bF25.2.1 bF25.2.2.1 bF25.2.2.2.1 bF25.2.2.2.2.1 0 0 0 (⟨#[]⟩ : ByteArray) ([] : List (S35)) else some (false))).bind fun bF28 => ((if ((bF3 && (!((bF25.2.2.2.2.2 == a4) && bF28))) && (bF25.2.2.2.2.2 == 0)) = true then zan.f k bF25.1 bF25.2.1 bF25.2.2.1 bF25.2.2.2.1 bF25.2.2.2.2.1 bJ70.1 bJ70.2.1 bJ70.2.2.1 bJ70.2.2.2.1 bJ70.2.2.2.2 else some (false))).bind fun bF30 => some ((bF3 && (((bF25.2.2.2.2.2 == a4) && bF28) || ((bF25.2.2.2.2.2 == 0) && bF30)))) else (zbf.f k l0 bJ70.1 bJ70.2.1 bJ70.2.2.1 bJ70.2.2.2.1 bJ70.2.2.2.2 a2 (wrap64 (-a4)) a5).bind fun bF36 => (zax.f k l0 bJ70.1 bJ70.2.1 bJ70.2.2.1 bJ70.2.2.2.1 bJ70.2.2.2.2).bind fun bF39 => (zax.f k l0 bF36.1 bF36.2.1 bF36.2.2.1 bF36.2.2.2.1 bF36.2.2.2.2).bind fun bF41 => (zax.f k l0 bF25.1 bF25.2.1 bF25.2.2.1 bF25.2.2.2.1 bF25.2.2.2.2.1).bind fun bF43 => (zaj.f k bF41 bF39).bind fun bF45 => ((if ((!(!bF45)) && (bF25.2.2.2.2.2 == 0)) = true then zaj.f k bF43 bF41 else some (false))).bind fun bF47 => (if ((!bF45) || ((bF25.2.2.2.2.2 == 0) && (!bF47))) = true then none else (zbu.f a3).bind fun bF49 => ((if bF49 = true then zav.f k l0 a3 else some ([]))).bind fun bF51 => ((if bF49 = true then zaj.f k bF51 bF41 else some (false))).bind fun bF53 => ((if (!(bF49 && (!((bF25.2.2.2.2.2 == 0) == bF53)))) = true then zbO.f a3 else some (false))).bind fun bF55 => (if (((bF49 && (!((bF25.2.2.2.2.2 == 0) == bF53))) || (bF55 && (bF25.2.2.2.2.2 != a4))) || ((a3.toList == [63]) && (bF25.2.2.2.2.2 != 0))) = true then none else (if (bF25.2.2.2.2.2 != 0) = true then ((if (bF3 && (bF25.2.2.2.2.2 == a4)) = true then zan.f k bF25.1 bF25.2.1 bF25.2.2.1 bF25.2.2.2.1 bF25.2.2.2.2.1 0 0 0 (⟨#[]⟩ : ByteArray) ([] : List (S35)) else some (false))).bind fun bF57 => some (((bF3 && (bF25.2.2.2.2.2 == a4)) && bF57)) else (zaF.f k l0 bF25.1 bF25.2.1 bF25.2.2.1 bF25.2.2.2.1 bF25.2.2.2.2.1 a3 a4 a5).bind fun bF64 => ((if (((bF3 && (bF64.2.2.2.2.2 == 0)) && (bF64.2.2.2.1.toList == bJ70.2.2.2.1.toList)) && (bF64.2.1 == bJ70.2.1)) = true then zax.f k l0 bF64.1 bF64.2.1 bF64.2.2.1 bF64.2.2.2.1 bF64.2.2.2.2.1 else some ([]))).bind fun bF67 => ((if (((bF3 && (bF64.2.2.2.2.2 == 0)) && (bF64.2.2.2.1.toList == bJ70.2.2.2.1.toList)) && (bF64.2.1 == bJ70.2.1)) = true then zaz.f k bF67 bF43 else some (false))).bind fun bF69 => some (((((bF3 && (bF64.2.2.2.2.2 == 0)) && (bF64.2.2.2.1.toList == bJ70.2.2.2.1.toList)) && (bF64.2.1 == bJ70.2.1)) && bF69)))))))
theorem chaperonlaw16_CoerceShrinks.mono : ∀ l0 a1_0 a1_1 a1_2 a1_3 l1_4 a2 a3 a4 a5 k, LeO (chaperonlaw16_CoerceShrinks.f k l0 a1_0 a1_1 a1_2 a1_3 l1_4 a2 a3 a4 a5) (chaperonlaw16_CoerceShrinks.f (k + 1) l0 a1_0 a1_1 a1_2 a1_3 l1_4 a2 a3 a4 a5) := by
 intro l0 a1_0 a1_1 a1_2 a1_3 l1_4 a2 a3 a4 a5 k
 unfold chaperonlaw16_CoerceShrinks.f
 repeat' first
  | (with_reducible exact zah.mono _ _)
  | (with_reducible exact zam.mono _ _ _ _ _ _)
  | (with_reducible exact zan.mono _ _ _ _ _ _ _ _ _ _ _)
  | (with_reducible exact zaE.mono _)
  | (with_reducible exact zaz.mono _ _ _)
  | (with_reducible exact zaj.mono _ _ _)
  | (with_reducible exact zbA.mono _ _ _ _ _ _ _ _ _ _ _)
  | (with_reducible exact zaF.mono _ _ _ _ _ _ _ _ _ _)
  | (with_reducible exact zbf.mono _ _ _ _ _ _ _ _ _ _)
  | (with_reducible exact zax.mono _ _ _ _ _ _ _)
  | (with_reducible exact zav.mono _ _ _)
  | (with_reducible exact LeO.refl _)
  | (with_reducible exact LeO.none _)
  | (with_reducible refine LeO.ite ?_ ?_)
  | (with_reducible refine LeO.bind ?_ (fun _ => ?_))
open Go.Proofs.YtinkbljjpafadaaRF Go.Proofs.YtinkbljjpafadaaRG in
theorem chaperonlaw16_CoerceShrinks.calls (k : Nat) (A0 : Option Addr) (c0 : Nat) (l0 : List (S64)) (a1_0 : Int) (a1_1 : Int) (a1_2 : Int) (a1_3 : ByteArray) (A1_4 : Option Addr) (c1_4 : Nat) (l1_4 : List (S35)) (a2 : ByteArray) (a3 : ByteArray) (a4 : Int) (a5 : Bool) (r : Bool) (w : World) (hr0 : Kd.C k64 w A0 l0.length l0) (hc0 : l0.length ≤ c0) (hr1_4 : Kd.C k35 w A1_4 l1_4.length l1_4) (hc1_4 : l1_4.length ≤ c1_4) (h : chaperonlaw16_CoerceShrinks.f k l0 a1_0 a1_1 a1_2 a1_3 l1_4 a2 a3 a4 a5 = some r) :
  Calls Try.prog 5 #[.slice A0 l0.length c0, .agg #[.int .i64 a1_0, .int .i64 a1_1, .int .u64 a1_2, .string a1_3, .slice A1_4 l1_4.length c1_4], .string a2, .string a3, .int .i64 a4, .bool a5] w fun e w' => e = .returned (.bool r) ∧ Below w.heap.size w w' := by
 unfold chaperonlaw16_CoerceShrinks.f at h
 have hu27 := Try.underlying27
 have hu33 := Try.underlying33
 have hu35 := Try.underlying35
 have HB := zaa.mk (Below.refl w.heap.size w)
 have PHC0 := zaa.mk hr0
 have HC0 := zaa.mk hr0
 clear hr0
 have PHC1_4 := zaa.mk hr1_4
 have HC1_4 := zaa.mk hr1_4
 clear hr1_4
 go_enter Try.func5, Try.ntmps5
 refine wp_seq ?_
 refine rgt (N := 187) 0 ?_
 rw [show List.range 0 = [] from rfl]
 intro vs w71_ hr hE
 have hg : Grows w w71_ := hr
 clear hE hr
 rw [show List.range 0 = [] from rfl]
 simp only [ps, ga, pa]
 have hT : Grows w71_ w71_ := Grows.refl _
 obtain ⟨w71_a, hw71_a⟩ : ∃ W, W = w71_.alloc (.cells #[.int .i64 a1_0, .int .i64 a1_1, .int .u64 a1_2, .string a1_3, .slice A1_4 l1_4.length c1_4] 27) := ⟨_, rfl⟩
 obtain ⟨b1_, hb1_⟩ : ∃ n, n = w71_.heap.size := ⟨_, rfl⟩
 refine zbt (i := 0) (r := [1]) (w' := w71_a) 7 (.pointer (some ⟨b1_, 0, none⟩)) rfl rfl (zae rfl) (by rw [hw71_a, hb1_]; go_simp) ?_
 simp only [pa]
 have HXb1 : w71_a.heap[b1_]? = some (.cells #[.int .i64 a1_0, .int .i64 a1_1, .int .u64 a1_2, .string a1_3, .slice A1_4 l1_4.length c1_4] 27 (0, 0)) := by rw [hw71_a, hb1_]; exact at_new _ _ rfl
 replace HXb1 := zaa.mk HXb1
 have hlb1 : w71_.heap.size ≤ b1_ := by rw [hb1_]; exact hT.size
 replace hT : Grows w71_ w71_a := by rw [hw71_a]; exact hT.trans (Grows.alloc _ _)
 clear hw71_a hb1_
 have hwb1 : w.heap.size ≤ b1_ := Nat.le_trans (Nat.le_trans HB.out.size hg.size) hlb1
 refine zbt (i := 1) (r := []) (w' := w71_a) 12 (.bool false) rfl rfl (zae rfl) q9 ?_
 simp only [pa]
 replace hg : Grows w w71_a := hg.trans hT
 clear hT
 refine zaU ?_
 simp only [Exit.then]
 replace HB := hbm HB hg
 clear hg
 replace HC0 := cb PHC0 HB.out
 replace HC1_4 := cb PHC1_4 HB.out
 refine wp_seq ?_
 replace h := Option.bind_eq_some_iff.1 h
 obtain ⟨t2, F3, h⟩ := h
 try dsimp only at h
 replace F3 := zaa.mk F3
 refine rgt (N := 187) 2 ?_
 rw [show List.range 2 = [0, 1] from rfl]
 refine rgc (fun v _ => v = .bool t2) Try.func3 ?_ ?_
 ·
  intro a w' hr hs
  rw [show (#[] : Array Operand).map a.eval = #[] by simp]
  refine (zaE.calls k t2 _ F3.out).mono ?_
  rintro e w3 ⟨rfl, hb⟩
  exact ⟨_, rfl, hb, rfl⟩
 refine rgv (.bool t2) ?_ ?_
 ·
  intro a w' hr hs
  have h22 := hs.gv 0 rfl rfl
  go_simp
 intro vs w72_ hr hE
 have e1 : vs 1 = .bool t2 := hE _ (zbp 0 rfl)
 have hg : Grows w71_a w72_ := hr
 clear hE hr
 rw [show List.range 2 = [0, 1] from rfl]
 simp only [ps, ga, pa, e1]
 clear e1
 have hT : Grows w72_ w72_ := Grows.refl _
 replace hg : Grows w71_a w72_ := hg.trans hT
 clear hT
 refine zaU ?_
 simp only [Exit.then]
 replace HXb1 := ab HXb1 hg
 replace HB := hbm HB hg
 clear hg
 replace HC0 := cb PHC0 HB.out
 replace HC1_4 := cb PHC1_4 HB.out
 refine wp_seq ?_
 refine wp_seq ?_
 replace h := Option.bind_eq_some_iff.1 h
 obtain ⟨t4, F5, h⟩ := h
 try dsimp only at h
 replace F5 := zaa.mk F5
 replace h := Option.bind_eq_some_iff.1 h
 obtain ⟨t6, F7, h⟩ := h
 try dsimp only at h
 replace F7 := zaa.mk F7
 refine rgt (N := 187) 20 ?_
 rw [show List.range 20 = [0, 1, 2, 3, 4, 5, 6, 7, 8, 9, 10, 11, 12, 13, 14, 15, 16, 17, 18, 19] from rfl]
 refine rgv (.slice A0 l0.length c0) ?_ ?_
 ·
  intro a w' hr hs
  have h0 := hs.ov 0 (.slice A0 l0.length c0)
  go_simp
 refine rgc (fun v _ => v = .bool t4) Try.func19 ?_ ?_
 ·
  intro a w' hr hs
  have h23 := hs.gv 0 rfl rfl
  rw [show (#[Operand.tmp 23] : Array Operand).map a.eval = #[.slice A0 l0.length c0] by simp [Act.eval, h23]]
  refine (zah.calls k A0 c0 l0 t4 _ (Kd.zat HC0.out hr) hc0 F5.out).mono ?_
  rintro e w3 ⟨rfl, hb⟩
  exact ⟨_, rfl, hb, rfl⟩
 refine rgv (.bool t4) ?_ ?_
 ·
  intro a w' hr hs
  have h24 := hs.gv 0 rfl rfl
  go_simp
 refine zaL (!t4) (fun v _ => v = .agg #[.int .i64 a1_0, .int .i64 a1_1, .int .u64 a1_2, .string a1_3, .slice A1_4 l1_4.length c1_4]) (fun _ _ _ _ h => h) Grows.refl rfl (fun hb a w hr hs => (zaG (g := 2) (t := 25) (b' := t4) rfl rfl (hs.g 0)).trans (gd_f hb)) (fun hb => ?_) ?_
 ·
  skip
  refine za2 (.agg #[.int .i64 a1_0, .int .i64 a1_1, .int .u64 a1_2, .string a1_3, .slice A1_4 l1_4.length c1_4]) Grows.refl rfl (fun a w hr hs => zal (g := 2) (t := 25) rfl rfl ((show a.tmps[25]?.getD undef = .bool t4 from hs.g 0).trans (congrArg Value.bool (not_t hb)))) ?_
  ·
   intro a w' hr hs
   have h7 := hs.ov 7 (.pointer (some ⟨b1_, 0, none⟩))
   have x := hr.at HXb1.out
   have x0 := zad x 0
   have x1 := zad x 1
   have x2 := zad x 2
   have x3 := zad x 3
   have x4 := zad x 4
   simp only [ga] at x0 x1 x2 x3 x4
   go_simp
 refine zaL (!t4) (fun v _ => v = .bool t6) (fun _ _ _ _ h => h) Grows.refl rfl (fun hb a w hr hs => (zaG (g := 2) (t := 25) (b' := t4) rfl rfl (hs.g 1)).trans (gd_f hb)) (fun hb => ?_) ?_
 ·
  skip
  refine zcJ (fun v _ => v = .bool t6) rfl rfl Try.func20 k9 rfl (fun a w hr hs => zal (g := 2) (t := 25) rfl rfl ((show a.tmps[25]?.getD undef = .bool t4 from hs.g 1).trans (congrArg Value.bool (not_t hb)))) ?_
  ·
   intro a w' hr hs
   have h26 : a.tmps[26]?.getD undef = .agg #[.int .i64 a1_0, .int .i64 a1_1, .int .u64 a1_2, .string a1_3, .slice A1_4 l1_4.length c1_4] := (hs.g 0).1 hb
   rw [show (#[Operand.tmp 26] : Array Operand).map a.eval = #[.agg #[.int .i64 a1_0, .int .i64 a1_1, .int .u64 a1_2, .string a1_3, .slice A1_4 l1_4.length c1_4]] by simp [Act.eval, h26]]
   refine (zam.calls k a1_0 a1_1 a1_2 a1_3 A1_4 c1_4 l1_4 t6 _ (Kd.zat HC1_4.out hr) hc1_4 ((if_pos hb).symm.trans F7.out)).mono ?_
   rintro e w3 ⟨rfl, hb⟩
   exact ⟨_, rfl, hb, rfl⟩
 refine rgv (.bool (t4 || t6)) ?_ ?_
 ·
  intro a w' hr hs
  have h25 := hs.gv 2 rfl rfl
  rcases Bool.eq_false_or_eq_true t4 with hq | hq
  ·
   rw [hq] at h25
   rw [show (t4 || t6) = true by rw [hq]; first | rfl | simp]
   go_simp
  ·
   rw [hq] at h25
   have h27 : a.tmps[27]?.getD undef = .bool t6 := (hs.g 0).1 (by rw [hq]; rfl)
   rw [show (t4 || t6) = t6 by rw [hq]; first | rfl | simp]
   go_simp
 refine rgv (.bool (t4 || t6)) ?_ ?_
 ·
  intro a w' hr hs
  have h28 := hs.gv 0 rfl rfl
  go_simp
 refine zaL (!(t4 || t6)) (fun v _ => v = .string a2) (fun _ _ _ _ h => h) Grows.refl rfl (fun hb a w hr hs => (zaG (g := 6) (t := 29) (b' := (t4 || t6)) rfl rfl (hs.g 0)).trans (gd_f hb)) (fun hb => ?_) ?_
 ·
  skip
  refine za2 (.string a2) Grows.refl rfl (fun a w hr hs => zal (g := 6) (t := 29) rfl rfl ((show a.tmps[29]?.getD undef = .bool (t4 || t6) from hs.g 0).trans (congrArg Value.bool (not_t hb)))) ?_
  ·
   intro a w' hr hs
   have h2 := hs.ov 2 (.string a2)
   go_simp
 refine zaL (!(t4 || t6)) (fun v _ => v = .int .i64 (a2.size : Int)) (fun _ _ _ _ h => h) Grows.refl rfl (fun hb a w hr hs => (zaG (g := 6) (t := 29) (b' := (t4 || t6)) rfl rfl (hs.g 1)).trans (gd_f hb)) (fun hb => ?_) ?_
 ·
  skip
  refine za2 (.int .i64 (a2.size : Int)) Grows.refl rfl (fun a w hr hs => zal (g := 6) (t := 29) rfl rfl ((show a.tmps[29]?.getD undef = .bool (t4 || t6) from hs.g 1).trans (congrArg Value.bool (not_t hb)))) ?_
  ·
   intro a w' hr hs
   have h30 : a.tmps[30]?.getD undef = .string a2 := (hs.g 0).1 hb
   go_simp
 refine zaL (!(t4 || t6)) (fun v _ => v = .bool (decide ((a2.size : Int) > 60))) (fun _ _ _ _ h => h) Grows.refl rfl (fun hb a w hr hs => (zaG (g := 6) (t := 29) (b' := (t4 || t6)) rfl rfl (hs.g 2)).trans (gd_f hb)) (fun hb => ?_) ?_
 ·
  skip
  refine za2 (.bool (decide ((a2.size : Int) > 60))) Grows.refl rfl (fun a w hr hs => zal (g := 6) (t := 29) rfl rfl ((show a.tmps[29]?.getD undef = .bool (t4 || t6) from hs.g 2).trans (congrArg Value.bool (not_t hb)))) ?_
  ·
   intro a w' hr hs
   have h31 : a.tmps[31]?.getD undef = .int .i64 (a2.size : Int) := (hs.g 0).1 hb
   go_simp
 refine rgv (.bool ((t4 || t6) || (decide ((a2.size : Int) > 60)))) ?_ ?_
 ·
  intro a w' hr hs
  have h29 := hs.gv 3 rfl rfl
  rcases Bool.eq_false_or_eq_true (t4 || t6) with hq | hq
  ·
   rw [hq] at h29
   rw [show ((t4 || t6) || (decide ((a2.size : Int) > 60))) = true by rw [hq]; first | rfl | simp]
   go_simp
  ·
   rw [hq] at h29
   have h32 : a.tmps[32]?.getD undef = .bool (decide ((a2.size : Int) > 60)) := (hs.g 0).1 (by rw [hq]; rfl)
   rw [show ((t4 || t6) || (decide ((a2.size : Int) > 60))) = (decide ((a2.size : Int) > 60)) by rw [hq]; first | rfl | simp]
   go_simp
 refine rgv (.bool ((t4 || t6) || (decide ((a2.size : Int) > 60)))) ?_ ?_
 ·
  intro a w' hr hs
  have h33 := hs.gv 0 rfl rfl
  go_simp
 refine zaL (!((t4 || t6) || (decide ((a2.size : Int) > 60)))) (fun v _ => v = .string a3) (fun _ _ _ _ h => h) Grows.refl rfl (fun hb a w hr hs => (zaG (g := 11) (t := 34) (b' := ((t4 || t6) || (decide ((a2.size : Int) > 60)))) rfl rfl (hs.g 0)).trans (gd_f hb)) (fun hb => ?_) ?_
 ·
  skip
  refine za2 (.string a3) Grows.refl rfl (fun a w hr hs => zal (g := 11) (t := 34) rfl rfl ((show a.tmps[34]?.getD undef = .bool ((t4 || t6) || (decide ((a2.size : Int) > 60))) from hs.g 0).trans (congrArg Value.bool (not_t hb)))) ?_
  ·
   intro a w' hr hs
   have h3 := hs.ov 3 (.string a3)
   go_simp
 refine zaL (!((t4 || t6) || (decide ((a2.size : Int) > 60)))) (fun v _ => v = .int .i64 (a3.size : Int)) (fun _ _ _ _ h => h) Grows.refl rfl (fun hb a w hr hs => (zaG (g := 11) (t := 34) (b' := ((t4 || t6) || (decide ((a2.size : Int) > 60)))) rfl rfl (hs.g 1)).trans (gd_f hb)) (fun hb => ?_) ?_
 ·
  skip
  refine za2 (.int .i64 (a3.size : Int)) Grows.refl rfl (fun a w hr hs => zal (g := 11) (t := 34) rfl rfl ((show a.tmps[34]?.getD undef = .bool ((t4 || t6) || (decide ((a2.size : Int) > 60))) from hs.g 1).trans (congrArg Value.bool (not_t hb)))) ?_
  ·
   intro a w' hr hs
   have h35 : a.tmps[35]?.getD undef = .string a3 := (hs.g 0).1 hb
   go_simp
 refine zaL (!((t4 || t6) || (decide ((a2.size : Int) > 60)))) (fun v _ => v = .bool (decide ((a3.size : Int) > 60))) (fun _ _ _ _ h => h) Grows.refl rfl (fun hb a w hr hs => (zaG (g := 11) (t := 34) (b' := ((t4 || t6) || (decide ((a2.size : Int) > 60)))) rfl rfl (hs.g 2)).trans (gd_f hb)) (fun hb => ?_) ?_
 ·
  skip
  refine za2 (.bool (decide ((a3.size : Int) > 60))) Grows.refl rfl (fun a w hr hs => zal (g := 11) (t := 34) rfl rfl ((show a.tmps[34]?.getD undef = .bool ((t4 || t6) || (decide ((a2.size : Int) > 60))) from hs.g 2).trans (congrArg Value.bool (not_t hb)))) ?_
  ·
   intro a w' hr hs
   have h36 : a.tmps[36]?.getD undef = .int .i64 (a3.size : Int) := (hs.g 0).1 hb
   go_simp
 refine rgv (.bool (((t4 || t6) || (decide ((a2.size : Int) > 60))) || (decide ((a3.size : Int) > 60)))) ?_ ?_
 ·
  intro a w' hr hs
  have h34 := hs.gv 3 rfl rfl
  rcases Bool.eq_false_or_eq_true ((t4 || t6) || (decide ((a2.size : Int) > 60))) with hq | hq
  ·
   rw [hq] at h34
   rw [show (((t4 || t6) || (decide ((a2.size : Int) > 60))) || (decide ((a3.size : Int) > 60))) = true by rw [hq]; first | rfl | simp]
   go_simp
  ·
   rw [hq] at h34
   have h37 : a.tmps[37]?.getD undef = .bool (decide ((a3.size : Int) > 60)) := (hs.g 0).1 (by rw [hq]; rfl)
   rw [show (((t4 || t6) || (decide ((a2.size : Int) > 60))) || (decide ((a3.size : Int) > 60))) = (decide ((a3.size : Int) > 60)) by rw [hq]; first | rfl | simp]
   go_simp
 refine rgv (.bool (((t4 || t6) || (decide ((a2.size : Int) > 60))) || (decide ((a3.size : Int) > 60)))) ?_ ?_
 ·
  intro a w' hr hs
  have h38 := hs.gv 0 rfl rfl
  go_simp
 refine zaL (!(((t4 || t6) || (decide ((a2.size : Int) > 60))) || (decide ((a3.size : Int) > 60)))) (fun v _ => v = .int .i64 a4) (fun _ _ _ _ h => h) Grows.refl rfl (fun hb a w hr hs => (zaG (g := 16) (t := 39) (b' := (((t4 || t6) || (decide ((a2.size : Int) > 60))) || (decide ((a3.size : Int) > 60)))) rfl rfl (hs.g 0)).trans (gd_f hb)) (fun hb => ?_) ?_
 ·
  skip
  refine za2 (.int .i64 a4) Grows.refl rfl (fun a w hr hs => zal (g := 16) (t := 39) rfl rfl ((show a.tmps[39]?.getD undef = .bool (((t4 || t6) || (decide ((a2.size : Int) > 60))) || (decide ((a3.size : Int) > 60))) from hs.g 0).trans (congrArg Value.bool (not_t hb)))) ?_
  ·
   intro a w' hr hs
   have h4 := hs.ov 4 (.int .i64 a4)
   go_simp
 refine zaL (!(((t4 || t6) || (decide ((a2.size : Int) > 60))) || (decide ((a3.size : Int) > 60)))) (fun v _ => v = .bool (a4 == 0)) (fun _ _ _ _ h => h) Grows.refl rfl (fun hb a w hr hs => (zaG (g := 16) (t := 39) (b' := (((t4 || t6) || (decide ((a2.size : Int) > 60))) || (decide ((a3.size : Int) > 60)))) rfl rfl (hs.g 1)).trans (gd_f hb)) (fun hb => ?_) ?_
 ·
  skip
  refine za2 (.bool (a4 == 0)) Grows.refl rfl (fun a w hr hs => zal (g := 16) (t := 39) rfl rfl ((show a.tmps[39]?.getD undef = .bool (((t4 || t6) || (decide ((a2.size : Int) > 60))) || (decide ((a3.size : Int) > 60))) from hs.g 1).trans (congrArg Value.bool (not_t hb)))) ?_
  ·
   intro a w' hr hs
   have h40 : a.tmps[40]?.getD undef = .int .i64 a4 := (hs.g 0).1 hb
   go_simp
 refine rgv (.bool ((((t4 || t6) || (decide ((a2.size : Int) > 60))) || (decide ((a3.size : Int) > 60))) || (a4 == 0))) ?_ ?_
 ·
  intro a w' hr hs
  have h39 := hs.gv 2 rfl rfl
  rcases Bool.eq_false_or_eq_true (((t4 || t6) || (decide ((a2.size : Int) > 60))) || (decide ((a3.size : Int) > 60))) with hq | hq
  ·
   rw [hq] at h39
   rw [show ((((t4 || t6) || (decide ((a2.size : Int) > 60))) || (decide ((a3.size : Int) > 60))) || (a4 == 0)) = true by rw [hq]; first | rfl | simp]
   go_simp
  ·
   rw [hq] at h39
   have h41 : a.tmps[41]?.getD undef = .bool (a4 == 0) := (hs.g 0).1 (by rw [hq]; rfl)
   rw [show ((((t4 || t6) || (decide ((a2.size : Int) > 60))) || (decide ((a3.size : Int) > 60))) || (a4 == 0)) = (a4 == 0) by rw [hq]; first | rfl | simp]
   go_simp
 intro vs w73_ hr hE
 have e19 : vs 19 = .bool ((((t4 || t6) || (decide ((a2.size : Int) > 60))) || (decide ((a3.size : Int) > 60))) || (a4 == 0)) := hE _ (zbp 0 rfl)
 have hg : Grows w72_ w73_ := hr
 clear hE hr
 rw [show List.range 20 = [0, 1, 2, 3, 4, 5, 6, 7, 8, 9, 10, 11, 12, 13, 14, 15, 16, 17, 18, 19] from rfl]
 simp only [ps, ga, pa, e19]
 clear e19
 have hT : Grows w73_ w73_ := Grows.refl _
 replace hg : Grows w72_ w73_ := hg.trans hT
 clear hT
 refine zaU ?_
 simp only [Exit.then]
 replace HXb1 := ab HXb1 hg
 replace HB := hbm HB hg
 clear hg
 replace HC0 := cb PHC0 HB.out
 replace HC1_4 := cb PHC1_4 HB.out
 by_cases q74 : ((((t4 || t6) || (decide ((a2.size : Int) > 60))) || (decide ((a3.size : Int) > 60))) || (a4 == 0)) = true
 ·
  rw [if_pos q74] at h
  have q74a : ((((t4 || t6) || (decide ((a2.size : Int) > 60))) || (decide ((a3.size : Int) > 60))) || (a4 == 0)) = true := by simpa only [Bool.not_eq_true] using q74
  clear q74
  refine wp_cond (t := ((((t4 || t6) || (decide ((a2.size : Int) > 60))) || (decide ((a3.size : Int) > 60))) || (a4 == 0))) (by simp [Act.eval]) ?_
  rw [if_pos q74a]
  refine wp_seq ?_
  refine rgt (N := 187) 2 ?_
  rw [show List.range 2 = [0, 1] from rfl]
  refine rgv (.bool t2) ?_ ?_
  ·
   intro a w' hr hs
   have h13 := hs.ov 13 (.bool t2)
   go_simp
  refine rgv (.bool t2) ?_ ?_
  ·
   intro a w' hr hs
   have h43 := hs.gv 0 rfl rfl
   go_simp
  intro vs w75_ hr hE
  have e1 : vs 1 = .bool t2 := hE _ (zbp 0 rfl)
  have hg : Grows w73_ w75_ := hr
  clear hE hr
  rw [show List.range 2 = [0, 1] from rfl]
  simp only [ps, ga, pa, e1]
  clear e1
  have hT : Grows w75_ w75_ := Grows.refl _
  replace hg : Grows w73_ w75_ := hg.trans hT
  clear hT
  refine zaU ?_
  simp only [Exit.then]
  replace HXb1 := ab HXb1 hg
  replace HB := hbm HB hg
  clear hg
  replace HC0 := cb PHC0 HB.out
  replace HC1_4 := cb PHC1_4 HB.out
  obtain rfl := Option.some.inj h
  go_wp2_with fail
  go_ret
  exact ⟨rfl, HB.out⟩
 ·
  rw [if_neg q74] at h
  have q74a : ((((t4 || t6) || (decide ((a2.size : Int) > 60))) || (decide ((a3.size : Int) > 60))) || (a4 == 0)) = false := by simpa only [Bool.not_eq_true] using q74
  clear q74
  refine wp_cond (t := ((((t4 || t6) || (decide ((a2.size : Int) > 60))) || (decide ((a3.size : Int) > 60))) || (a4 == 0))) (by simp [Act.eval]) ?_
  rw [if_neg (by rw [q74a]; exact Bool.false_ne_true)]
  refine wp_skip ?_
  simp only [Exit.then]
  refine wp_seq ?_
  refine wp_seq ?_
  refine rgt (N := 187) 1 ?_
  rw [show List.range 1 = [0] from rfl]
  refine rgv (.bool a5) ?_ ?_
  ·
   intro a w' hr hs
   have h5 := hs.ov 5 (.bool a5)
   go_simp
  intro vs w76_ hr hE
  have e0 : vs 0 = .bool a5 := hE _ (zbp 0 rfl)
  have hg : Grows w73_ w76_ := hr
  clear hE hr
  rw [show List.range 1 = [0] from rfl]
  simp only [ps, ga, pa, e0]
  clear e0
  have hT : Grows w76_ w76_ := Grows.refl _
  replace hg : Grows w73_ w76_ := hg.trans hT
  clear hT
  refine zaU ?_
  simp only [Exit.then]
  replace HXb1 := ab HXb1 hg
  replace HB := hbm HB hg
  clear hg
  replace HC0 := cb PHC0 HB.out
  replace HC1_4 := cb PHC1_4 HB.out
  replace h := Option.bind_eq_some_iff.1 h
  obtain ⟨⟨t14, t15, t16, t17, t18⟩, hJ70, h⟩ := h
  try dsimp only at h
  refine zkp (fun a' W' => ∃ u, a' = (fun u : Nat → Value => ({ tmps := #[.slice A0 l0.length c0, u 1, .string a2, .string a3, .int .i64 a4, .bool a5, u 6, .pointer (some ⟨b1_, 0, none⟩), u 8, u 9, u 10, u 11, .bool false, .bool t2, u 14, u 15, u 16, u 17, u 18, u 19, u 20, u 21, u 22, u 23, u 24, u 25, u 26, u 27, u 28, u 29, u 30, u 31, u 32, u 33, u 34, u 35, u 36, u 37, u 38, u 39, u 40, u 41, u 42, u 43, u 44, u 45, u 46, u 47, u 48, u 49, u 50, u 51, u 52, u 53, u 54, u 55, u 56, u 57, u 58, u 59, u 60, u 61, u 62, u 63, u 64, u 65, u 66, u 67, u 68, u 69, u 70, u 71, u 72, u 73, u 74, u 75, u 76, u 77, u 78, u 79, u 80, u 81, u 82, u 83, u 84, u 85, u 86, u 87, u 88, u 89, u 90, u 91, u 92, u 93, u 94, u 95, u 96, u 97, u 98, u 99, u 100, u 101, u 102, u 103, u 104, u 105, u 106, u 107, u 108, u 109, u 110, u 111, u 112, u 113, u 114, u 115, u 116, u 117, u 118, u 119, u 120, u 121, u 122, u 123, u 124, u 125, u 126, u 127, u 128, u 129, u 130, u 131, u 132, u 133, u 134, u 135, u 136, u 137, u 138, u 139, u 140, u 141, u 142, u 143, u 144, u 145, u 146, u 147, u 148, u 149, u 150, u 151, u 152, u 153, u 154, u 155, u 156, u 157, u 158, u 159, u 160, u 161, u 162, u 163, u 164, u 165, u 166, u 167, u 168, u 169, u 170, u 171, u 172, u 173, u 174, u 175, u 176, u 177, u 178, u 179, u 180, u 181, u 182, u 183, u 184, u 185, u 186], defers := [] } : Act)) u ∧ ∃ (Au79 : Option Addr) (cu79 : Nat), t18.length ≤ cu79 ∧ k35.C W' Au79 t18.length t18 ∧ W'.heap[b1_]? = some (.cells #[.int .i64 t14, .int .i64 t15, .int .u64 t16, .string t17, .slice Au79 t18.length cu79] 27 (0, 0)) ∧ Below w.heap.size w W') ?_ ?_
  ·
   have h := hJ70
   by_cases q77 : a5 = true
   ·
    rw [if_pos q77] at h
    have q77a : a5 = true := by simpa only [Bool.not_eq_true] using q77
    clear q77
    refine wp_cond (t := a5) (by simp [Act.eval]) ?_
    rw [if_pos q77a]
    replace h := Option.bind_eq_some_iff.1 h
    obtain ⟨⟨t8, t9, t10, t11, t12⟩, F13, h⟩ := h
    try dsimp only at h
    replace F13 := zaa.mk F13
    refine rgt (N := 187) 2 ?_
    rw [show List.range 2 = [0, 1] from rfl]
    refine rgv (.agg #[.int .i64 a1_0, .int .i64 a1_1, .int .u64 a1_2, .string a1_3, .slice A1_4 l1_4.length c1_4]) ?_ ?_
    ·
     intro a w' hr hs
     have h7 := hs.ov 7 (.pointer (some ⟨b1_, 0, none⟩))
     have x := hr.at HXb1.out
     have x0 := zad x 0
     have x1 := zad x 1
     have x2 := zad x 2
     have x3 := zad x 3
     have x4 := zad x 4
     simp only [ga] at x0 x1 x2 x3 x4
     go_simp
    refine rgc (OneR k35 35 t12 (vA t8 t9 t10 t11)) Try.func22 ?_ ?_
    ·
     intro a w' hr hs
     have h45 := hs.gv 0 rfl rfl
     rw [show (#[Operand.tmp 45] : Array Operand).map a.eval = #[.agg #[.int .i64 a1_0, .int .i64 a1_1, .int .u64 a1_2, .string a1_3, .slice A1_4 l1_4.length c1_4]] by simp [Act.eval, h45]]
     refine (zbH.calls a1_0 a1_1 a1_2 a1_3 A1_4 c1_4 l1_4 t8 t9 t10 t11 t12 _ (Kd.zat HC1_4.out hr) hc1_4 F13.out).mono ?_
     rintro e w3 ⟨v, rfl, hR, hb⟩
     exact ⟨_, rfl, hb, OneR.of hR⟩
    intro vs w80_ hr hE
    have g_ : OneR k35 35 t12 (vA t8 t9 t10 t11) (vs 1) w80_ := hE _ (zbp 0 rfl)
    obtain ⟨Au81, cu81, e1, hcu81, hCu81, hRu81⟩ := g_.reads
    clear g_
    replace e1 : vs 1 = .agg #[.int .i64 t8, .int .i64 t9, .int .u64 t10, .string t11, .slice Au81 t12.length cu81] := e1
    have HCu81 := zaa.mk hCu81
    clear hCu81
    have HRu81 := zaa.mk hRu81
    clear hRu81
    have hg : Grows w76_ w80_ := hr
    clear hE hr
    rw [show List.range 2 = [0, 1] from rfl]
    simp only [ps, ga, pa, e1]
    clear e1
    have hT : Grows w80_ w80_ := Grows.refl _
    clear hT
    replace HXb1 := ab HXb1 hg
    have z0 := zad HXb1.out 0
    have f0 := free_at HXb1.out 0
    have z1 := zad HXb1.out 1
    have f1 := free_at HXb1.out 1
    have z2 := zad HXb1.out 2
    have f2 := free_at HXb1.out 2
    have z3 := zad HXb1.out 3
    have f3 := free_at HXb1.out 3
    have z4 := zad HXb1.out 4
    have f4 := free_at HXb1.out 4
    simp only [ga] at z0 z1 z2 z3 z4
    obtain ⟨w80_s, hw80_s⟩ : ∃ W, W = (((((w80_.setCell ⟨b1_, 0, none⟩ (.int .i64 t8)).setCell ⟨b1_, 1, none⟩ (.int .i64 t9)).setCell ⟨b1_, 2, none⟩ (.int .u64 t10)).setCell ⟨b1_, 3, none⟩ (.string t11)).setCell ⟨b1_, 4, none⟩ (.slice Au81 t12.length cu81)) := ⟨_, rfl⟩
    refine zcm (i := 2) (r := []) (w' := w80_s) rfl rfl (zae rfl) (by rw [hw80_s]; go_simp) ?_
    clear z0 z1 z2 z3 z4 f0 f1 f2 f3 f4
    have hR_ := (Kd.R_set (Kd.R_set (Kd.R_set (Kd.R_set (Kd.R_set HRu81.out HXb1.out d9 0 (.int .i64 t8)) (zaf HXb1.out 0 (.int .i64 t8) rfl) d9 1 (.int .i64 t9)) (zaf (zaf HXb1.out 0 (.int .i64 t8) rfl) 1 (.int .i64 t9) rfl) d9 2 (.int .u64 t10)) (zaf (zaf (zaf HXb1.out 0 (.int .i64 t8) rfl) 1 (.int .i64 t9) rfl) 2 (.int .u64 t10) rfl) d9 3 (.string t11)) (zaf (zaf (zaf (zaf HXb1.out 0 (.int .i64 t8) rfl) 1 (.int .i64 t9) rfl) 2 (.int .u64 t10) rfl) 3 (.string t11) rfl) d9 4 (.slice Au81 t12.length cu81))
    rw [← hw80_s] at hR_
    replace HCu81 := zaa.mk (Kd.zbq hR_).2.2
    replace HRu81 := zaa.mk hR_
    clear hR_
    have hX_ : w80_s.heap[b1_]? = some (.cells #[.int .i64 t8, .int .i64 t9, .int .u64 t10, .string t11, .slice Au81 t12.length cu81] 27 (0, 0)) := by rw [hw80_s]; exact (zaf (zaf (zaf (zaf (zaf HXb1.out 0 (.int .i64 t8) rfl) 1 (.int .i64 t9) rfl) 2 (.int .u64 t10) rfl) 3 (.string t11) rfl) 4 (.slice Au81 t12.length cu81) rfl)
    replace HXb1 := zaa.mk hX_
    clear hX_
    replace HB : zaa (Below w.heap.size w w80_s) := ⟨by rw [hw80_s]; exact (setB (setB (setB (setB (setB (HB.out.trans (Below.mono hg HB.out.size)) hwb1 (.int .i64 t8)) hwb1 (.int .i64 t9)) hwb1 (.int .u64 t10)) hwb1 (.string t11)) hwb1 (.slice Au81 t12.length cu81))⟩
    clear hw80_s hg
    refine zaU ?_
    simp only [Exit.then]
    replace HC0 := cb PHC0 HB.out
    replace HC1_4 := cb PHC1_4 HB.out
    simp only [Option.some.injEq, Prod.mk.injEq] at h
    obtain ⟨rfl, rfl, rfl, rfl, rfl⟩ := h
    exact zih (X := (fun u : Nat → Value => ({ tmps := #[.slice A0 l0.length c0, u 1, .string a2, .string a3, .int .i64 a4, .bool a5, u 6, .pointer (some ⟨b1_, 0, none⟩), u 8, u 9, u 10, u 11, .bool false, .bool t2, u 14, u 15, u 16, u 17, u 18, u 19, u 20, u 21, u 22, u 23, u 24, u 25, u 26, u 27, u 28, u 29, u 30, u 31, u 32, u 33, u 34, u 35, u 36, u 37, u 38, u 39, u 40, u 41, u 42, u 43, u 44, u 45, u 46, u 47, u 48, u 49, u 50, u 51, u 52, u 53, u 54, u 55, u 56, u 57, u 58, u 59, u 60, u 61, u 62, u 63, u 64, u 65, u 66, u 67, u 68, u 69, u 70, u 71, u 72, u 73, u 74, u 75, u 76, u 77, u 78, u 79, u 80, u 81, u 82, u 83, u 84, u 85, u 86, u 87, u 88, u 89, u 90, u 91, u 92, u 93, u 94, u 95, u 96, u 97, u 98, u 99, u 100, u 101, u 102, u 103, u 104, u 105, u 106, u 107, u 108, u 109, u 110, u 111, u 112, u 113, u 114, u 115, u 116, u 117, u 118, u 119, u 120, u 121, u 122, u 123, u 124, u 125, u 126, u 127, u 128, u 129, u 130, u 131, u 132, u 133, u 134, u 135, u 136, u 137, u 138, u 139, u 140, u 141, u 142, u 143, u 144, u 145, u 146, u 147, u 148, u 149, u 150, u 151, u 152, u 153, u 154, u 155, u 156, u 157, u 158, u 159, u 160, u 161, u 162, u 163, u 164, u 165, u 166, u 167, u 168, u 169, u 170, u 171, u 172, u 173, u 174, u 175, u 176, u 177, u 178, u 179, u 180, u 181, u 182, u 183, u 184, u 185, u 186], defers := [] } : Act))) rfl ⟨Au81, cu81, hcu81, HCu81.out, HXb1.out, HB.out⟩
   ·
    rw [if_neg q77] at h
    have q77a : a5 = false := by simpa only [Bool.not_eq_true] using q77
    clear q77
    refine wp_cond (t := a5) (by simp [Act.eval]) ?_
    rw [if_neg (by rw [q77a]; exact Bool.false_ne_true)]
    refine wp_skip ?_
    simp only [Exit.then]
    simp only [Option.some.injEq, Prod.mk.injEq] at h
    obtain ⟨rfl, rfl, rfl, rfl, rfl⟩ := h
    exact zih (X := (fun u : Nat → Value => ({ tmps := #[.slice A0 l0.length c0, u 1, .string a2, .string a3, .int .i64 a4, .bool a5, u 6, .pointer (some ⟨b1_, 0, none⟩), u 8, u 9, u 10, u 11, .bool false, .bool t2, u 14, u 15, u 16, u 17, u 18, u 19, u 20, u 21, u 22, u 23, u 24, u 25, u 26, u 27, u 28, u 29, u 30, u 31, u 32, u 33, u 34, u 35, u 36, u 37, u 38, u 39, u 40, u 41, u 42, u 43, u 44, u 45, u 46, u 47, u 48, u 49, u 50, u 51, u 52, u 53, u 54, u 55, u 56, u 57, u 58, u 59, u 60, u 61, u 62, u 63, u 64, u 65, u 66, u 67, u 68, u 69, u 70, u 71, u 72, u 73, u 74, u 75, u 76, u 77, u 78, u 79, u 80, u 81, u 82, u 83, u 84, u 85, u 86, u 87, u 88, u 89, u 90, u 91, u 92, u 93, u 94, u 95, u 96, u 97, u 98, u 99, u 100, u 101, u 102, u 103, u 104, u 105, u 106, u 107, u 108, u 109, u 110, u 111, u 112, u 113, u 114, u 115, u 116, u 117, u 118, u 119, u 120, u 121, u 122, u 123, u 124, u 125, u 126, u 127, u 128, u 129, u 130, u 131, u 132, u 133, u 134, u 135, u 136, u 137, u 138, u 139, u 140, u 141, u 142, u 143, u 144, u 145, u 146, u 147, u 148, u 149, u 150, u 151, u 152, u 153, u 154, u 155, u 156, u 157, u 158, u 159, u 160, u 161, u 162, u 163, u 164, u 165, u 166, u 167, u 168, u 169, u 170, u 171, u 172, u 173, u 174, u 175, u 176, u 177, u 178, u 179, u 180, u 181, u 182, u 183, u 184, u 185, u 186], defers := [] } : Act))) rfl ⟨A1_4, c1_4, hc1_4, HC1_4.out, HXb1.out, HB.out⟩
  ·
   rintro _ w82j ⟨u78, rfl, Au79, cu79, hcu79, HCu79_, HXb1_, HB_⟩
   have HCu79 := zaa.mk HCu79_
   clear HCu79_
   have HXb1 := zaa.mk HXb1_
   clear HXb1_
   have HB := zaa.mk HB_
   clear HB_
   have HC0 := cb PHC0 HB.out
   have HC1_4 := cb PHC1_4 HB.out
   refine wp_seq ?_
   replace h := Option.bind_eq_some_iff.1 h
   obtain ⟨⟨t19, t20, t21, t22, t23, t24⟩, F25, h⟩ := h
   try dsimp only at h
   replace F25 := zaa.mk F25
   refine rgt (N := 187) 10 ?_
   rw [show List.range 10 = [0, 1, 2, 3, 4, 5, 6, 7, 8, 9] from rfl]
   refine rgv (.slice A0 l0.length c0) ?_ ?_
   ·
    intro a w' hr hs
    have h0 := hs.ov 0 (.slice A0 l0.length c0)
    go_simp
   refine rgv (.agg #[.int .i64 t14, .int .i64 t15, .int .u64 t16, .string t17, .slice Au79 t18.length cu79]) ?_ ?_
   ·
    intro a w' hr hs
    have h7 := hs.ov 7 (.pointer (some ⟨b1_, 0, none⟩))
    have x := hr.at HXb1.out
    have x0 := zad x 0
    have x1 := zad x 1
    have x2 := zad x 2
    have x3 := zad x 3
    have x4 := zad x 4
    simp only [ga] at x0 x1 x2 x3 x4
    go_simp
   refine rgv (.string a2) ?_ ?_
   ·
    intro a w' hr hs
    have h2 := hs.ov 2 (.string a2)
    go_simp
   refine rgv (.string a3) ?_ ?_
   ·
    intro a w' hr hs
    have h3 := hs.ov 3 (.string a3)
    go_simp
   refine rgv (.int .i64 a4) ?_ ?_
   ·
    intro a w' hr hs
    have h4 := hs.ov 4 (.int .i64 a4)
    go_simp
   refine rgv (.bool a5) ?_ ?_
   ·
    intro a w' hr hs
    have h5 := hs.ov 5 (.bool a5)
    go_simp
   refine rgc (OneR k35 35 t23 (vT t19 t20 t21 t22 t24)) Try.func25 ?_ ?_
   ·
    intro a w' hr hs
    have h48 := hs.gv 5 rfl rfl
    have h49 := hs.gv 4 rfl rfl
    have h50 := hs.gv 3 rfl rfl
    have h51 := hs.gv 2 rfl rfl
    have h52 := hs.gv 1 rfl rfl
    have h53 := hs.gv 0 rfl rfl
    rw [show (#[Operand.tmp 48, Operand.tmp 49, Operand.tmp 50, Operand.tmp 51, Operand.tmp 52, Operand.tmp 53] : Array Operand).map a.eval = #[.slice A0 l0.length c0, .agg #[.int .i64 t14, .int .i64 t15, .int .u64 t16, .string t17, .slice Au79 t18.length cu79], .string a2, .string a3, .int .i64 a4, .bool a5] by simp [Act.eval, h48, h49, h50, h51, h52, h53]]
    refine (zbA.calls k A0 c0 l0 t14 t15 t16 t17 Au79 cu79 t18 a2 a3 a4 a5 t19 t20 t21 t22 t23 t24 _ (Kd.zat HC0.out hr) hc0 (Kd.zat HCu79.out hr) hcu79 F25.out).mono ?_
    rintro e w3 ⟨v, rfl, hR, hb⟩
    exact ⟨_, rfl, hb, OneR.of hR⟩
   refine rgk (OneR k35 35 t23 (vT t19 t20 t21 t22 t24)) ?_ ?_
   ·
    intro a w' hr hs
    obtain ⟨A54, c54, h54, hc54, hC54, hR54⟩ := hs.rd 0 rfl rfl
    simp only [vT] at h54
    exact ⟨.tuple #[.agg #[.int .i64 t19, .int .i64 t20, .int .u64 t21, .string t22, .slice A54 t23.length c54], .int .i64 t24], by go_simp, _, rfl, hR54⟩
   refine rgk (OneR k35 35 t23 (vA t19 t20 t21 t22)) ?_ ?_
   ·
    intro a w' hr hs
    obtain ⟨A47, c47, h47, hc47, hC47, hR47⟩ := hs.rd 0 rfl rfl
    simp only [vT] at h47
    exact ⟨.agg #[.int .i64 t19, .int .i64 t20, .int .u64 t21, .string t22, .slice A47 t23.length c47], by go_simp, _, rfl, hR47⟩
   refine rgv (.int .i64 t24) ?_ ?_
   ·
    intro a w' hr hs
    obtain ⟨A47, c47, h47, hc47, hC47, hR47⟩ := hs.rd 1 rfl rfl
    simp only [vT] at h47
    go_simp
   intro vs w83_ hr hE
   have g_ : OneR k35 35 t23 (vA t19 t20 t21 t22) (vs 8) w83_ := hE _ (zbp 1 rfl)
   obtain ⟨Au84, cu84, e8, hcu84, hCu84, hRu84⟩ := g_.reads
   clear g_
   replace e8 : vs 8 = .agg #[.int .i64 t19, .int .i64 t20, .int .u64 t21, .string t22, .slice Au84 t23.length cu84] := e8
   have HCu84 := zaa.mk hCu84
   clear hCu84
   have HRu84 := zaa.mk hRu84
   clear hRu84
   have e9 : vs 9 = .int .i64 t24 := hE _ (zbp 0 rfl)
   have hg : Grows w82j w83_ := hr
   clear hE hr
   rw [show List.range 10 = [0, 1, 2, 3, 4, 5, 6, 7, 8, 9] from rfl]
   simp only [ps, ga, pa, e8, e9]
   clear e8 e9
   have hT : Grows w83_ w83_ := Grows.refl _
   obtain ⟨w83_a, hw83_a⟩ : ∃ W, W = w83_.alloc (.cells #[.int .i64 0, .int .i64 0, .int .u64 0, .string (⟨#[]⟩ : ByteArray), .slice none 0 0] 27) := ⟨_, rfl⟩
   obtain ⟨b26_, hb26_⟩ : ∃ n, n = w83_.heap.size := ⟨_, rfl⟩
   refine zbt (i := 10) (r := [11, 12]) (w' := w83_a) 14 (.pointer (some ⟨b26_, 0, none⟩)) rfl rfl (zae rfl) (by rw [hw83_a, hb26_]; go_simp) ?_
   simp only [pa]
   have HXb26 : w83_a.heap[b26_]? = some (.cells #[.int .i64 0, .int .i64 0, .int .u64 0, .string (⟨#[]⟩ : ByteArray), .slice none 0 0] 27 (0, 0)) := by rw [hw83_a, hb26_]; exact at_new _ _ rfl
   replace HXb26 := zaa.mk HXb26
   have hlb26 : w83_.heap.size ≤ b26_ := by rw [hb26_]; exact hT.size
   replace hT : Grows w83_ w83_a := by rw [hw83_a]; exact hT.trans (Grows.alloc _ _)
   clear hw83_a hb26_
   have hwb26 : w.heap.size ≤ b26_ := Nat.le_trans (Nat.le_trans HB.out.size hg.size) hlb26
   have hneb1b26 : b1_ ≠ b26_ := by have h1 := zai HXb1.out; have h2 := hg.size; omega
   have z0 := zad HXb26.out 0
   have f0 := free_at HXb26.out 0
   have z1 := zad HXb26.out 1
   have f1 := free_at HXb26.out 1
   have z2 := zad HXb26.out 2
   have f2 := free_at HXb26.out 2
   have z3 := zad HXb26.out 3
   have f3 := free_at HXb26.out 3
   have z4 := zad HXb26.out 4
   have f4 := free_at HXb26.out 4
   simp only [ga] at z0 z1 z2 z3 z4
   obtain ⟨w83_as, hw83_as⟩ : ∃ W, W = (((((w83_a.setCell ⟨b26_, 0, none⟩ (.int .i64 t19)).setCell ⟨b26_, 1, none⟩ (.int .i64 t20)).setCell ⟨b26_, 2, none⟩ (.int .u64 t21)).setCell ⟨b26_, 3, none⟩ (.string t22)).setCell ⟨b26_, 4, none⟩ (.slice Au84 t23.length cu84)) := ⟨_, rfl⟩
   refine zcm (i := 11) (r := [12]) (w' := w83_as) rfl rfl (zae rfl) (by rw [hw83_as]; go_simp) ?_
   clear z0 z1 z2 z3 z4 f0 f1 f2 f3 f4
   have hX_ : w83_as.heap[b26_]? = some (.cells #[.int .i64 t19, .int .i64 t20, .int .u64 t21, .string t22, .slice Au84 t23.length cu84] 27 (0, 0)) := by rw [hw83_as]; exact (zaf (zaf (zaf (zaf (zaf HXb26.out 0 (.int .i64 t19) rfl) 1 (.int .i64 t20) rfl) 2 (.int .u64 t21) rfl) 3 (.string t22) rfl) 4 (.slice Au84 t23.length cu84) rfl)
   replace HXb26 := zaa.mk hX_
   clear hX_
   replace hT : Grows w83_ w83_as := by rw [hw83_as]; exact (setB (setB (setB (setB (setB hT hlb26 (.int .i64 t19)) hlb26 (.int .i64 t20)) hlb26 (.int .u64 t21)) hlb26 (.string t22)) hlb26 (.slice Au84 t23.length cu84))
   clear hw83_as
   refine zbt (i := 12) (r := []) (w' := w83_as) 15 (.int .i64 t24) rfl rfl (zae rfl) q9 ?_
   simp only [pa]
   replace HCu84 := cb HCu84 hT
   replace HRu84 := rb HRu84 hT
   replace hg : Grows w82j w83_as := hg.trans hT
   clear hT
   refine zaU ?_
   simp only [Exit.then]
   replace HCu79 := cb HCu79 hg
   replace HXb1 := ab HXb1 hg
   replace HB := hbm HB hg
   clear hg
   replace HC0 := cb PHC0 HB.out
   replace HC1_4 := cb PHC1_4 HB.out
   refine wp_seq ?_
   refine wp_seq ?_
   refine rgt (N := 187) 3 ?_
   rw [show List.range 3 = [0, 1, 2] from rfl]
   refine rgv (.pointer (some ⟨b1_, 0, none⟩)) ?_ ?_
   ·
    intro a w' hr hs
    have h7 := hs.ov 7 (.pointer (some ⟨b1_, 0, none⟩))
    go_simp
   refine rgv (.int .i64 t14) ?_ ?_
   ·
    intro a w' hr hs
    have h57 := hs.gv 0 rfl rfl
    have x := hr.at HXb1.out
    have x0 := zad x 0
    have x1 := zad x 1
    have x2 := zad x 2
    have x3 := zad x 3
    have x4 := zad x 4
    simp only [ga] at x0 x1 x2 x3 x4
    go_simp
   refine rgv (.bool (t14 != 7)) ?_ ?_
   ·
    intro a w' hr hs
    have h58 := hs.gv 0 rfl rfl
    go_simp
   intro vs w85_ hr hE
   have e2 : vs 2 = .bool (t14 != 7) := hE _ (zbp 0 rfl)
   have hg : Grows w83_as w85_ := hr
   clear hE hr
   rw [show List.range 3 = [0, 1, 2] from rfl]
   simp only [ps, ga, pa, e2]
   clear e2
   have hT : Grows w85_ w85_ := Grows.refl _
   replace hg : Grows w83_as w85_ := hg.trans hT
   clear hT
   refine zaU ?_
   simp only [Exit.then]
   replace HCu79 := cb HCu79 hg
   replace HCu84 := cb HCu84 hg
   replace HRu84 := rb HRu84 hg
   replace HXb1 := ab HXb1 hg
   replace HXb26 := ab HXb26 hg
   replace HB := hbm HB hg
   clear hg
   replace HC0 := cb PHC0 HB.out
   replace HC1_4 := cb PHC1_4 HB.out
   by_cases q86 : (t14 != 7) = true
   ·
    rw [if_pos q86] at h
    have q86a : (t14 != 7) = true := by simpa only [Bool.not_eq_true] using q86
    clear q86
    refine wp_cond (t := (t14 != 7)) (by simp [Act.eval]) ?_
    rw [if_pos q86a]
    refine wp_seq ?_
    replace h := Option.bind_eq_some_iff.1 h
    obtain ⟨t27, F28, h⟩ := h
    try dsimp only at h
    replace F28 := zaa.mk F28
    replace h := Option.bind_eq_some_iff.1 h
    obtain ⟨t29, F30, h⟩ := h
    try dsimp only at h
    replace F30 := zaa.mk F30
    refine rgt (N := 187) 21 ?_
    rw [show List.range 21 = [0, 1, 2, 3, 4, 5, 6, 7, 8, 9, 10, 11, 12, 13, 14, 15, 16, 17, 18, 19, 20] from rfl]
    refine rgv (.bool t2) ?_ ?_
    ·
     intro a w' hr hs
     have h13 := hs.ov 13 (.bool t2)
     go_simp
    refine rgv (.bool t2) ?_ ?_
    ·
     intro a w' hr hs
     have h60 := hs.gv 0 rfl rfl
     go_simp
    refine zaL t2 (fun v _ => v = .int .i64 t24) (fun _ _ _ _ h => h) Grows.refl rfl (fun hb a w hr hs => (zaG (g := 1) (t := 61) (b' := t2) rfl rfl (hs.g 0)).trans (gd_t hb)) (fun hb => ?_) ?_
    ·
     skip
     refine za2 (.int .i64 t24) Grows.refl rfl (fun a w hr hs => zal (g := 1) (t := 61) rfl rfl ((show a.tmps[61]?.getD undef = .bool t2 from hs.g 0).trans (congrArg Value.bool hb))) ?_
     ·
      intro a w' hr hs
      have h15 := hs.ov 15 (.int .i64 t24)
      go_simp
    refine zaL t2 (fun v _ => v = .int .i64 a4) (fun _ _ _ _ h => h) Grows.refl rfl (fun hb a w hr hs => (zaG (g := 1) (t := 61) (b' := t2) rfl rfl (hs.g 1)).trans (gd_t hb)) (fun hb => ?_) ?_
    ·
     skip
     refine za2 (.int .i64 a4) Grows.refl rfl (fun a w hr hs => zal (g := 1) (t := 61) rfl rfl ((show a.tmps[61]?.getD undef = .bool t2 from hs.g 1).trans (congrArg Value.bool hb))) ?_
     ·
      intro a w' hr hs
      have h4 := hs.ov 4 (.int .i64 a4)
      go_simp
    refine zaL t2 (fun v _ => v = .bool (t24 == a4)) (fun _ _ _ _ h => h) Grows.refl rfl (fun hb a w hr hs => (zaG (g := 1) (t := 61) (b' := t2) rfl rfl (hs.g 2)).trans (gd_t hb)) (fun hb => ?_) ?_
    ·
     skip
     refine za2 (.bool (t24 == a4)) Grows.refl rfl (fun a w hr hs => zal (g := 1) (t := 61) rfl rfl ((show a.tmps[61]?.getD undef = .bool t2 from hs.g 2).trans (congrArg Value.bool hb))) ?_
     ·
      intro a w' hr hs
      have h62 : a.tmps[62]?.getD undef = .int .i64 t24 := (hs.g 1).1 hb
      have h63 : a.tmps[63]?.getD undef = .int .i64 a4 := (hs.g 0).1 hb
      go_simp
    refine zaL t2 (fun v _ => v = .bool (t24 == a4)) (fun _ _ _ _ h => h) Grows.refl rfl (fun hb a w hr hs => (zaG (g := 1) (t := 61) (b' := t2) rfl rfl (hs.g 3)).trans (gd_t hb)) (fun hb => ?_) ?_
    ·
     skip
     refine za2 (.bool (t24 == a4)) Grows.refl rfl (fun a w hr hs => zal (g := 1) (t := 61) rfl rfl ((show a.tmps[61]?.getD undef = .bool t2 from hs.g 3).trans (congrArg Value.bool hb))) ?_
     ·
      intro a w' hr hs
      have h64 : a.tmps[64]?.getD undef = .bool (t24 == a4) := (hs.g 0).1 hb
      go_simp
    refine zaL (t2 && (t24 == a4)) (fun v _ => v = .agg #[.int .i64 t19, .int .i64 t20, .int .u64 t21, .string t22, .slice Au84 t23.length cu84]) (fun _ _ _ _ h => h) Grows.refl rfl (fun hb a w hr hs => by cases he : t2 with | false => exact zbD (g := 5) (t := 65) rfl rfl ((hs.g 0).2 he) | true => exact (zaG (g := 5) (t := 65) (b' := (t24 == a4)) rfl rfl ((hs.g 0).1 he)).trans (gd_t (and_f hb he))) (fun hb => ?_) ?_
    ·
     skip
     refine za2 (.agg #[.int .i64 t19, .int .i64 t20, .int .u64 t21, .string t22, .slice Au84 t23.length cu84]) Grows.refl rfl (fun a w hr hs => zal (g := 5) (t := 65) rfl rfl ((show a.tmps[65]?.getD undef = .bool (t24 == a4) from ((hs.g 0).1 (and_l hb))).trans (congrArg Value.bool (and_r hb)))) ?_
     ·
      intro a w' hr hs
      have h14 := hs.ov 14 (.pointer (some ⟨b26_, 0, none⟩))
      have x := hr.at HXb26.out
      have x0 := zad x 0
      have x1 := zad x 1
      have x2 := zad x 2
      have x3 := zad x 3
      have x4 := zad x 4
      simp only [ga] at x0 x1 x2 x3 x4
      go_simp
    refine zaL (t2 && (t24 == a4)) (fun v _ => v = .agg #[.int .i64 0, .int .i64 0, .int .u64 0, .string (⟨#[]⟩ : ByteArray), .slice none 0 0]) (fun _ _ _ _ h => h) Grows.refl rfl (fun hb a w hr hs => by cases he : t2 with | false => exact zbD (g := 5) (t := 65) rfl rfl ((hs.g 1).2 he) | true => exact (zaG (g := 5) (t := 65) (b' := (t24 == a4)) rfl rfl ((hs.g 1).1 he)).trans (gd_t (and_f hb he))) (fun hb => ?_) ?_
    ·
     skip
     refine za2 (.agg #[.int .i64 0, .int .i64 0, .int .u64 0, .string (⟨#[]⟩ : ByteArray), .slice none 0 0]) Grows.refl rfl (fun a w hr hs => zal (g := 5) (t := 65) rfl rfl ((show a.tmps[65]?.getD undef = .bool (t24 == a4) from ((hs.g 1).1 (and_l hb))).trans (congrArg Value.bool (and_r hb)))) ?_
     ·
      intro a w' hr hs
      go_simp
    refine zaL (t2 && (t24 == a4)) (fun v _ => v = .bool t27) (fun _ _ _ _ h => h) Grows.refl rfl (fun hb a w hr hs => by cases he : t2 with | false => exact zbD (g := 5) (t := 65) rfl rfl ((hs.g 2).2 he) | true => exact (zaG (g := 5) (t := 65) (b' := (t24 == a4)) rfl rfl ((hs.g 2).1 he)).trans (gd_t (and_f hb he))) (fun hb => ?_) ?_
    ·
     skip
     refine zcJ (fun v _ => v = .bool t27) rfl rfl Try.func14 k9 rfl (fun a w hr hs => zal (g := 5) (t := 65) rfl rfl ((show a.tmps[65]?.getD undef = .bool (t24 == a4) from ((hs.g 2).1 (and_l hb))).trans (congrArg Value.bool (and_r hb)))) ?_
     ·
      intro a w' hr hs
      have h66 : a.tmps[66]?.getD undef = .agg #[.int .i64 t19, .int .i64 t20, .int .u64 t21, .string t22, .slice Au84 t23.length cu84] := (hs.g 1).1 hb
      have h67 : a.tmps[67]?.getD undef = .agg #[.int .i64 0, .int .i64 0, .int .u64 0, .string (⟨#[]⟩ : ByteArray), .slice none 0 0] := (hs.g 0).1 hb
      rw [show (#[Operand.tmp 66, Operand.tmp 67] : Array Operand).map a.eval = #[.agg #[.int .i64 t19, .int .i64 t20, .int .u64 t21, .string t22, .slice Au84 t23.length cu84], .agg #[.int .i64 0, .int .i64 0, .int .u64 0, .string (⟨#[]⟩ : ByteArray), .slice none 0 0]] by simp [Act.eval, h66, h67]]
      refine (zan.calls k t19 t20 t21 t22 Au84 cu84 t23 0 0 0 (⟨#[]⟩ : ByteArray) none 0 ([] : List (S35)) t27 _ (Kd.zat HCu84.out hr) hcu84 (Kd.C_nil _ _) (Nat.le_refl _) ((if_pos hb).symm.trans F28.out)).mono ?_
      rintro e w3 ⟨rfl, hb⟩
      exact ⟨_, rfl, hb, rfl⟩
    refine zaL t2 (fun v _ => v = .bool ((t24 == a4) && t27)) (fun _ _ _ _ h => h) Grows.refl rfl (fun hb a w hr hs => (zaG (g := 1) (t := 61) (b' := t2) rfl rfl (hs.g 7)).trans (gd_t hb)) (fun hb => ?_) ?_
    ·
     skip
     refine za2 (.bool ((t24 == a4) && t27)) Grows.refl rfl (fun a w hr hs => zal (g := 1) (t := 61) rfl rfl ((show a.tmps[61]?.getD undef = .bool t2 from hs.g 7).trans (congrArg Value.bool hb))) ?_
     ·
      intro a w' hr hs
      have h65 : a.tmps[65]?.getD undef = .bool (t24 == a4) := (hs.g 3).1 hb
      rcases Bool.eq_false_or_eq_true (t24 == a4) with hq | hq
      ·
       rw [hq] at h65
       have h68 : a.tmps[68]?.getD undef = .bool t27 := (hs.g 0).1 (by rw [hb, hq]; rfl)
       rw [show ((t24 == a4) && t27) = t27 by rw [hq]; first | rfl | simp]
       go_simp
      ·
       rw [hq] at h65
       rw [show ((t24 == a4) && t27) = false by rw [hq]; first | rfl | simp]
       go_simp
    refine zaL t2 (fun v _ => v = .bool ((t24 == a4) && t27)) (fun _ _ _ _ h => h) Grows.refl rfl (fun hb a w hr hs => (zaG (g := 1) (t := 61) (b' := t2) rfl rfl (hs.g 8)).trans (gd_t hb)) (fun hb => ?_) ?_
    ·
     skip
     refine za2 (.bool ((t24 == a4) && t27)) Grows.refl rfl (fun a w hr hs => zal (g := 1) (t := 61) rfl rfl ((show a.tmps[61]?.getD undef = .bool t2 from hs.g 8).trans (congrArg Value.bool hb))) ?_
     ·
      intro a w' hr hs
      have h69 : a.tmps[69]?.getD undef = .bool ((t24 == a4) && t27) := (hs.g 0).1 hb
      go_simp
    refine zaL (t2 && (!((t24 == a4) && t27))) (fun v _ => v = .int .i64 t24) (fun _ _ _ _ h => h) Grows.refl rfl (fun hb a w hr hs => by cases he : t2 with | false => exact zbD (g := 10) (t := 70) rfl rfl ((hs.g 0).2 he) | true => exact (zaG (g := 10) (t := 70) (b' := ((t24 == a4) && t27)) rfl rfl ((hs.g 0).1 he)).trans (gd_f (and_f hb he))) (fun hb => ?_) ?_
    ·
     skip
     refine za2 (.int .i64 t24) Grows.refl rfl (fun a w hr hs => zal (g := 10) (t := 70) rfl rfl ((show a.tmps[70]?.getD undef = .bool ((t24 == a4) && t27) from ((hs.g 0).1 (and_l hb))).trans (congrArg Value.bool (not_t (and_r hb))))) ?_
     ·
      intro a w' hr hs
      have h15 := hs.ov 15 (.int .i64 t24)
      go_simp
    refine zaL (t2 && (!((t24 == a4) && t27))) (fun v _ => v = .bool (t24 == 0)) (fun _ _ _ _ h => h) Grows.refl rfl (fun hb a w hr hs => by cases he : t2 with | false => exact zbD (g := 10) (t := 70) rfl rfl ((hs.g 1).2 he) | true => exact (zaG (g := 10) (t := 70) (b' := ((t24 == a4) && t27)) rfl rfl ((hs.g 1).1 he)).trans (gd_f (and_f hb he))) (fun hb => ?_) ?_
    ·
     skip
     refine za2 (.bool (t24 == 0)) Grows.refl rfl (fun a w hr hs => zal (g := 10) (t := 70) rfl rfl ((show a.tmps[70]?.getD undef = .bool ((t24 == a4) && t27) from ((hs.g 1).1 (and_l hb))).trans (congrArg Value.bool (not_t (and_r hb))))) ?_
     ·
      intro a w' hr hs
      have h71 : a.tmps[71]?.getD undef = .int .i64 t24 := (hs.g 0).1 hb
      go_simp
    refine zaL (t2 && (!((t24 == a4) && t27))) (fun v _ => v = .bool (t24 == 0)) (fun _ _ _ _ h => h) Grows.refl rfl (fun hb a w hr hs => by cases he : t2 with | false => exact zbD (g := 10) (t := 70) rfl rfl ((hs.g 2).2 he) | true => exact (zaG (g := 10) (t := 70) (b' := ((t24 == a4) && t27)) rfl rfl ((hs.g 2).1 he)).trans (gd_f (and_f hb he))) (fun hb => ?_) ?_
    ·
     skip
     refine za2 (.bool (t24 == 0)) Grows.refl rfl (fun a w hr hs => zal (g := 10) (t := 70) rfl rfl ((show a.tmps[70]?.getD undef = .bool ((t24 == a4) && t27) from ((hs.g 2).1 (and_l hb))).trans (congrArg Value.bool (not_t (and_r hb))))) ?_
     ·
      intro a w' hr hs
      have h72 : a.tmps[72]?.getD undef = .bool (t24 == 0) := (hs.g 0).1 hb
      go_simp
    refine zaL ((t2 && (!((t24 == a4) && t27))) && (t24 == 0)) (fun v _ => v = .agg #[.int .i64 t19, .int .i64 t20, .int .u64 t21, .string t22, .slice Au84 t23.length cu84]) (fun _ _ _ _ h => h) Grows.refl rfl (fun hb a w hr hs => by cases he : (t2 && (!((t24 == a4) && t27))) with | false => exact zbD (g := 13) (t := 73) rfl rfl ((hs.g 0).2 he) | true => exact (zaG (g := 13) (t := 73) (b' := (t24 == 0)) rfl rfl ((hs.g 0).1 he)).trans (gd_t (and_f hb he))) (fun hb => ?_) ?_
    ·
     skip
     refine za2 (.agg #[.int .i64 t19, .int .i64 t20, .int .u64 t21, .string t22, .slice Au84 t23.length cu84]) Grows.refl rfl (fun a w hr hs => zal (g := 13) (t := 73) rfl rfl ((show a.tmps[73]?.getD undef = .bool (t24 == 0) from ((hs.g 0).1 (and_l hb))).trans (congrArg Value.bool (and_r hb)))) ?_
     ·
      intro a w' hr hs
      have h14 := hs.ov 14 (.pointer (some ⟨b26_, 0, none⟩))
      have x := hr.at HXb26.out
      have x0 := zad x 0
      have x1 := zad x 1
      have x2 := zad x 2
      have x3 := zad x 3
      have x4 := zad x 4
      simp only [ga] at x0 x1 x2 x3 x4
      go_simp
    refine zaL ((t2 && (!((t24 == a4) && t27))) && (t24 == 0)) (fun v _ => v = .agg #[.int .i64 t14, .int .i64 t15, .int .u64 t16, .string t17, .slice Au79 t18.length cu79]) (fun _ _ _ _ h => h) Grows.refl rfl (fun hb a w hr hs => by cases he : (t2 && (!((t24 == a4) && t27))) with | false => exact zbD (g := 13) (t := 73) rfl rfl ((hs.g 1).2 he) | true => exact (zaG (g := 13) (t := 73) (b' := (t24 == 0)) rfl rfl ((hs.g 1).1 he)).trans (gd_t (and_f hb he))) (fun hb => ?_) ?_
    ·
     skip
     refine za2 (.agg #[.int .i64 t14, .int .i64 t15, .int .u64 t16, .string t17, .slice Au79 t18.length cu79]) Grows.refl rfl (fun a w hr hs => zal (g := 13) (t := 73) rfl rfl ((show a.tmps[73]?.getD undef = .bool (t24 == 0) from ((hs.g 1).1 (and_l hb))).trans (congrArg Value.bool (and_r hb)))) ?_
     ·
      intro a w' hr hs
      have h7 := hs.ov 7 (.pointer (some ⟨b1_, 0, none⟩))
      have x := hr.at HXb1.out
      have x0 := zad x 0
      have x1 := zad x 1
      have x2 := zad x 2
      have x3 := zad x 3
      have x4 := zad x 4
      simp only [ga] at x0 x1 x2 x3 x4
      go_simp
    refine zaL ((t2 && (!((t24 == a4) && t27))) && (t24 == 0)) (fun v _ => v = .bool t29) (fun _ _ _ _ h => h) Grows.refl rfl (fun hb a w hr hs => by cases he : (t2 && (!((t24 == a4) && t27))) with | false => exact zbD (g := 13) (t := 73) rfl rfl ((hs.g 2).2 he) | true => exact (zaG (g := 13) (t := 73) (b' := (t24 == 0)) rfl rfl ((hs.g 2).1 he)).trans (gd_t (and_f hb he))) (fun hb => ?_) ?_
    ·
     skip
     refine zcJ (fun v _ => v = .bool t29) rfl rfl Try.func14 k9 rfl (fun a w hr hs => zal (g := 13) (t := 73) rfl rfl ((show a.tmps[73]?.getD undef = .bool (t24 == 0) from ((hs.g 2).1 (and_l hb))).trans (congrArg Value.bool (and_r hb)))) ?_
     ·
      intro a w' hr hs
      have h74 : a.tmps[74]?.getD undef = .agg #[.int .i64 t19, .int .i64 t20, .int .u64 t21, .string t22, .slice Au84 t23.length cu84] := (hs.g 1).1 hb
      have h75 : a.tmps[75]?.getD undef = .agg #[.int .i64 t14, .int .i64 t15, .int .u64 t16, .string t17, .slice Au79 t18.length cu79] := (hs.g 0).1 hb
      rw [show (#[Operand.tmp 74, Operand.tmp 75] : Array Operand).map a.eval = #[.agg #[.int .i64 t19, .int .i64 t20, .int .u64 t21, .string t22, .slice Au84 t23.length cu84], .agg #[.int .i64 t14, .int .i64 t15, .int .u64 t16, .string t17, .slice Au79 t18.length cu79]] by simp [Act.eval, h74, h75]]
      refine (zan.calls k t19 t20 t21 t22 Au84 cu84 t23 t14 t15 t16 t17 Au79 cu79 t18 t29 _ (Kd.zat HCu84.out hr) hcu84 (Kd.zat HCu79.out hr) hcu79 ((if_pos hb).symm.trans F30.out)).mono ?_
      rintro e w3 ⟨rfl, hb⟩
      exact ⟨_, rfl, hb, rfl⟩
    refine zaL (t2 && (!((t24 == a4) && t27))) (fun v _ => v = .bool ((t24 == 0) && t29)) (fun _ _ _ _ h => h) Grows.refl rfl (fun hb a w hr hs => by cases he : t2 with | false => exact zbD (g := 10) (t := 70) rfl rfl ((hs.g 6).2 he) | true => exact (zaG (g := 10) (t := 70) (b' := ((t24 == a4) && t27)) rfl rfl ((hs.g 6).1 he)).trans (gd_f (and_f hb he))) (fun hb => ?_) ?_
    ·
     skip
     refine za2 (.bool ((t24 == 0) && t29)) Grows.refl rfl (fun a w hr hs => zal (g := 10) (t := 70) rfl rfl ((show a.tmps[70]?.getD undef = .bool ((t24 == a4) && t27) from ((hs.g 6).1 (and_l hb))).trans (congrArg Value.bool (not_t (and_r hb))))) ?_
     ·
      intro a w' hr hs
      have h73 : a.tmps[73]?.getD undef = .bool (t24 == 0) := (hs.g 3).1 hb
      rcases Bool.eq_false_or_eq_true (t24 == 0) with hq | hq
      ·
       rw [hq] at h73
       have h76 : a.tmps[76]?.getD undef = .bool t29 := (hs.g 0).1 (by rw [hb, hq]; rfl)
       rw [show ((t24 == 0) && t29) = t29 by rw [hq]; first | rfl | simp]
       go_simp
      ·
       rw [hq] at h73
       rw [show ((t24 == 0) && t29) = false by rw [hq]; first | rfl | simp]
       go_simp
    refine zaL t2 (fun v _ => v = .bool (((t24 == a4) && t27) || ((t24 == 0) && t29))) (fun _ _ _ _ h => h) Grows.refl rfl (fun hb a w hr hs => (zaG (g := 1) (t := 61) (b' := t2) rfl rfl (hs.g 16)).trans (gd_t hb)) (fun hb => ?_) ?_
    ·
     skip
     refine za2 (.bool (((t24 == a4) && t27) || ((t24 == 0) && t29))) Grows.refl rfl (fun a w hr hs => zal (g := 1) (t := 61) rfl rfl ((show a.tmps[61]?.getD undef = .bool t2 from hs.g 16).trans (congrArg Value.bool hb))) ?_
     ·
      intro a w' hr hs
      have h70 : a.tmps[70]?.getD undef = .bool ((t24 == a4) && t27) := (hs.g 7).1 hb
      rcases Bool.eq_false_or_eq_true ((t24 == a4) && t27) with hq | hq
      ·
       rw [hq] at h70
       rw [show (((t24 == a4) && t27) || ((t24 == 0) && t29)) = true by rw [hq]; first | rfl | simp]
       go_simp
      ·
       rw [hq] at h70
       have h77 : a.tmps[77]?.getD undef = .bool ((t24 == 0) && t29) := (hs.g 0).1 (by rw [hb, hq]; rfl)
       rw [show (((t24 == a4) && t27) || ((t24 == 0) && t29)) = ((t24 == 0) && t29) by rw [hq]; first | rfl | simp]
       go_simp
    refine rgv (.bool (t2 && (((t24 == a4) && t27) || ((t24 == 0) && t29)))) ?_ ?_
    ·
     intro a w' hr hs
     have h61 := hs.gv 17 rfl rfl
     rcases Bool.eq_false_or_eq_true t2 with hq | hq
     ·
      rw [hq] at h61
      have h78 : a.tmps[78]?.getD undef = .bool (((t24 == a4) && t27) || ((t24 == 0) && t29)) := (hs.g 0).1 hq
      rw [show (t2 && (((t24 == a4) && t27) || ((t24 == 0) && t29))) = (((t24 == a4) && t27) || ((t24 == 0) && t29)) by rw [hq]; first | rfl | simp]
      go_simp
     ·
      rw [hq] at h61
      rw [show (t2 && (((t24 == a4) && t27) || ((t24 == 0) && t29))) = false by rw [hq]; first | rfl | simp]
      go_simp
    refine rgv (.bool (t2 && (((t24 == a4) && t27) || ((t24 == 0) && t29)))) ?_ ?_
    ·
     intro a w' hr hs
     have h79 := hs.gv 0 rfl rfl
     go_simp
    intro vs w87_ hr hE
    have e20 : vs 20 = .bool (t2 && (((t24 == a4) && t27) || ((t24 == 0) && t29))) := hE _ (zbp 0 rfl)
    have hg : Grows w85_ w87_ := hr
    clear hE hr
    rw [show List.range 21 = [0, 1, 2, 3, 4, 5, 6, 7, 8, 9, 10, 11, 12, 13, 14, 15, 16, 17, 18, 19, 20] from rfl]
    simp only [ps, ga, pa, e20]
    clear e20
    have hT : Grows w87_ w87_ := Grows.refl _
    replace hg : Grows w85_ w87_ := hg.trans hT
    clear hT
    refine zaU ?_
    simp only [Exit.then]
    replace HCu79 := cb HCu79 hg
    replace HCu84 := cb HCu84 hg
    replace HRu84 := rb HRu84 hg
    replace HXb1 := ab HXb1 hg
    replace HXb26 := ab HXb26 hg
    replace HB := hbm HB hg
    clear hg
    replace HC0 := cb PHC0 HB.out
    replace HC1_4 := cb PHC1_4 HB.out
    obtain rfl := Option.some.inj h
    go_wp2_with fail
    go_ret
    exact ⟨rfl, HB.out⟩
   ·
    rw [if_neg q86] at h
    have q86a : (t14 != 7) = false := by simpa only [Bool.not_eq_true] using q86
    clear q86
    refine wp_cond (t := (t14 != 7)) (by simp [Act.eval]) ?_
    rw [if_neg (by rw [q86a]; exact Bool.false_ne_true)]
    refine wp_skip ?_
    simp only [Exit.then]
    refine wp_seq ?_
    replace h := Option.bind_eq_some_iff.1 h
    obtain ⟨⟨t31, t32, t33, t34, t35⟩, F36, h⟩ := h
    try dsimp only at h
    replace F36 := zaa.mk F36
    refine rgt (N := 187) 7 ?_
    rw [show List.range 7 = [0, 1, 2, 3, 4, 5, 6] from rfl]
    refine rgv (.slice A0 l0.length c0) ?_ ?_
    ·
     intro a w' hr hs
     have h0 := hs.ov 0 (.slice A0 l0.length c0)
     go_simp
    refine rgv (.agg #[.int .i64 t14, .int .i64 t15, .int .u64 t16, .string t17, .slice Au79 t18.length cu79]) ?_ ?_
    ·
     intro a w' hr hs
     have h7 := hs.ov 7 (.pointer (some ⟨b1_, 0, none⟩))
     have x := hr.at HXb1.out
     have x0 := zad x 0
     have x1 := zad x 1
     have x2 := zad x 2
     have x3 := zad x 3
     have x4 := zad x 4
     simp only [ga] at x0 x1 x2 x3 x4
     go_simp
    refine rgv (.string a2) ?_ ?_
    ·
     intro a w' hr hs
     have h2 := hs.ov 2 (.string a2)
     go_simp
    refine rgv (.int .i64 a4) ?_ ?_
    ·
     intro a w' hr hs
     have h4 := hs.ov 4 (.int .i64 a4)
     go_simp
    refine rgv (.int .i64 (wrap64 (-a4))) ?_ ?_
    ·
     intro a w' hr hs
     have h83 := hs.gv 0 rfl rfl
     go_simp <;> exact i64_w _
    refine rgv (.bool a5) ?_ ?_
    ·
     intro a w' hr hs
     have h5 := hs.ov 5 (.bool a5)
     go_simp
    refine rgc (OneR k35 35 t35 (vA t31 t32 t33 t34)) Try.func15 ?_ ?_
    ·
     intro a w' hr hs
     have h80 := hs.gv 5 rfl rfl
     have h81 := hs.gv 4 rfl rfl
     have h82 := hs.gv 3 rfl rfl
     have h84 := hs.gv 1 rfl rfl
     have h85 := hs.gv 0 rfl rfl
     rw [show (#[Operand.tmp 80, Operand.tmp 81, Operand.tmp 82, Operand.tmp 84, Operand.tmp 85] : Array Operand).map a.eval = #[.slice A0 l0.length c0, .agg #[.int .i64 t14, .int .i64 t15, .int .u64 t16, .string t17, .slice Au79 t18.length cu79], .string a2, .int .i64 (wrap64 (-a4)), .bool a5] by simp [Act.eval, h80, h81, h82, h84, h85]]
     refine (zbf.calls k A0 c0 l0 t14 t15 t16 t17 Au79 cu79 t18 a2 (wrap64 (-a4)) a5 t31 t32 t33 t34 t35 _ (Kd.zat HC0.out hr) hc0 (Kd.zat HCu79.out hr) hcu79 F36.out).mono ?_
     rintro e w3 ⟨v, rfl, hR, hb⟩
     exact ⟨_, rfl, hb, OneR.of hR⟩
    intro vs w88_ hr hE
    have g_ : OneR k35 35 t35 (vA t31 t32 t33 t34) (vs 6) w88_ := hE _ (zbp 0 rfl)
    obtain ⟨Au89, cu89, e6, hcu89, hCu89, hRu89⟩ := g_.reads
    clear g_
    replace e6 : vs 6 = .agg #[.int .i64 t31, .int .i64 t32, .int .u64 t33, .string t34, .slice Au89 t35.length cu89] := e6
    have HCu89 := zaa.mk hCu89
    clear hCu89
    have HRu89 := zaa.mk hRu89
    clear hRu89
    have hg : Grows w85_ w88_ := hr
    clear hE hr
    rw [show List.range 7 = [0, 1, 2, 3, 4, 5, 6] from rfl]
    simp only [ps, ga, pa, e6]
    clear e6
    have hT : Grows w88_ w88_ := Grows.refl _
    obtain ⟨w88_a, hw88_a⟩ : ∃ W, W = w88_.alloc (.cells #[.int .i64 0, .int .i64 0, .int .u64 0, .string (⟨#[]⟩ : ByteArray), .slice none 0 0] 27) := ⟨_, rfl⟩
    obtain ⟨b37_, hb37_⟩ : ∃ n, n = w88_.heap.size := ⟨_, rfl⟩
    refine zbt (i := 7) (r := [8]) (w' := w88_a) 16 (.pointer (some ⟨b37_, 0, none⟩)) rfl rfl (zae rfl) (by rw [hw88_a, hb37_]; go_simp) ?_
    simp only [pa]
    have HXb37 : w88_a.heap[b37_]? = some (.cells #[.int .i64 0, .int .i64 0, .int .u64 0, .string (⟨#[]⟩ : ByteArray), .slice none 0 0] 27 (0, 0)) := by rw [hw88_a, hb37_]; exact at_new _ _ rfl
    replace HXb37 := zaa.mk HXb37
    have hlb37 : w88_.heap.size ≤ b37_ := by rw [hb37_]; exact hT.size
    replace hT : Grows w88_ w88_a := by rw [hw88_a]; exact hT.trans (Grows.alloc _ _)
    clear hw88_a hb37_
    have hwb37 : w.heap.size ≤ b37_ := Nat.le_trans (Nat.le_trans HB.out.size hg.size) hlb37
    have hneb1b37 : b1_ ≠ b37_ := by have h1 := zai HXb1.out; have h2 := hg.size; omega
    have hneb26b37 : b26_ ≠ b37_ := by have h1 := zai HXb26.out; have h2 := hg.size; omega
    have z0 := zad HXb37.out 0
    have f0 := free_at HXb37.out 0
    have z1 := zad HXb37.out 1
    have f1 := free_at HXb37.out 1
    have z2 := zad HXb37.out 2
    have f2 := free_at HXb37.out 2
    have z3 := zad HXb37.out 3
    have f3 := free_at HXb37.out 3
    have z4 := zad HXb37.out 4
    have f4 := free_at HXb37.out 4
    simp only [ga] at z0 z1 z2 z3 z4
    obtain ⟨w88_as, hw88_as⟩ : ∃ W, W = (((((w88_a.setCell ⟨b37_, 0, none⟩ (.int .i64 t31)).setCell ⟨b37_, 1, none⟩ (.int .i64 t32)).setCell ⟨b37_, 2, none⟩ (.int .u64 t33)).setCell ⟨b37_, 3, none⟩ (.string t34)).setCell ⟨b37_, 4, none⟩ (.slice Au89 t35.length cu89)) := ⟨_, rfl⟩
    refine zcm (i := 8) (r := []) (w' := w88_as) rfl rfl (zae rfl) (by rw [hw88_as]; go_simp) ?_
    clear z0 z1 z2 z3 z4 f0 f1 f2 f3 f4
    have hX_ : w88_as.heap[b37_]? = some (.cells #[.int .i64 t31, .int .i64 t32, .int .u64 t33, .string t34, .slice Au89 t35.length cu89] 27 (0, 0)) := by rw [hw88_as]; exact (zaf (zaf (zaf (zaf (zaf HXb37.out 0 (.int .i64 t31) rfl) 1 (.int .i64 t32) rfl) 2 (.int .u64 t33) rfl) 3 (.string t34) rfl) 4 (.slice Au89 t35.length cu89) rfl)
    replace HXb37 := zaa.mk hX_
    clear hX_
    replace hT : Grows w88_ w88_as := by rw [hw88_as]; exact (setB (setB (setB (setB (setB hT hlb37 (.int .i64 t31)) hlb37 (.int .i64 t32)) hlb37 (.int .u64 t33)) hlb37 (.string t34)) hlb37 (.slice Au89 t35.length cu89))
    clear hw88_as
    replace HCu89 := cb HCu89 hT
    replace HRu89 := rb HRu89 hT
    replace hg : Grows w85_ w88_as := hg.trans hT
    clear hT
    refine zaU ?_
    simp only [Exit.then]
    replace HCu79 := cb HCu79 hg
    replace HCu84 := cb HCu84 hg
    replace HRu84 := rb HRu84 hg
    replace HXb1 := ab HXb1 hg
    replace HXb26 := ab HXb26 hg
    replace HB := hbm HB hg
    clear hg
    replace HC0 := cb PHC0 HB.out
    replace HC1_4 := cb PHC1_4 HB.out
    refine wp_seq ?_
    replace h := Option.bind_eq_some_iff.1 h
    obtain ⟨t38, F39, h⟩ := h
    try dsimp only at h
    replace F39 := zaa.mk F39
    replace h := Option.bind_eq_some_iff.1 h
    obtain ⟨t40, F41, h⟩ := h
    try dsimp only at h
    replace F41 := zaa.mk F41
    replace h := Option.bind_eq_some_iff.1 h
    obtain ⟨t42, F43, h⟩ := h
    try dsimp only at h
    replace F43 := zaa.mk F43
    refine zeH (N := 187) 12 Grows k9 k9 rfl Grows.refl Grows.trans ?_
    rw [show List.range 12 = [0, 1, 2, 3, 4, 5, 6, 7, 8, 9, 10, 11] from rfl]
    refine rgv (.slice A0 l0.length c0) ?_ ?_
    ·
     intro a w' hr hs
     have h0 := hs.ov 0 (.slice A0 l0.length c0)
     go_simp
    refine rgv (.agg #[.int .i64 t14, .int .i64 t15, .int .u64 t16, .string t17, .slice Au79 t18.length cu79]) ?_ ?_
    ·
     intro a w' hr hs
     have h7 := hs.ov 7 (.pointer (some ⟨b1_, 0, none⟩))
     have x := hr.at (zcg HXb1.out)
     have x0 := zad x 0
     have x1 := zad x 1
     have x2 := zad x 2
     have x3 := zad x 3
     have x4 := zad x 4
     simp only [ga] at x0 x1 x2 x3 x4
     go_simp
    refine rgc (OneR k33 33 t38 (fun u => u)) Try.func8 ?_ ?_
    ·
     intro a w' hr hs
     have h87 := hs.gv 1 rfl rfl
     have h88 := hs.gv 0 rfl rfl
     rw [show (#[Operand.tmp 87, Operand.tmp 88] : Array Operand).map a.eval = #[.slice A0 l0.length c0, .agg #[.int .i64 t14, .int .i64 t15, .int .u64 t16, .string t17, .slice Au79 t18.length cu79]] by simp [Act.eval, h87, h88]]
     refine (zax.calls k A0 c0 l0 t14 t15 t16 t17 Au79 cu79 t18 t38 _ (Kd.zat (Kd.zbw HC0.out) hr) hc0 (Kd.zat (Kd.zbw HCu79.out) hr) hcu79 F39.out).mono ?_
     rintro e w3 ⟨v, rfl, hR, hb⟩
     exact ⟨_, rfl, hb, OneR.of hR⟩
    refine rgv (.slice A0 l0.length c0) ?_ ?_
    ·
     intro a w' hr hs
     have h0 := hs.ov 0 (.slice A0 l0.length c0)
     go_simp
    refine rgv (.agg #[.int .i64 t31, .int .i64 t32, .int .u64 t33, .string t34, .slice Au89 t35.length cu89]) ?_ ?_
    ·
     intro a w' hr hs
     have h16 := hs.ov 16 (.pointer (some ⟨b37_, 0, none⟩))
     have x := hr.at (zcg HXb37.out)
     have x0 := zad x 0
     have x1 := zad x 1
     have x2 := zad x 2
     have x3 := zad x 3
     have x4 := zad x 4
     simp only [ga] at x0 x1 x2 x3 x4
     go_simp
    refine rgc (OneR k33 33 t40 (fun u => u)) Try.func8 ?_ ?_
    ·
     intro a w' hr hs
     have h90 := hs.gv 1 rfl rfl
     have h91 := hs.gv 0 rfl rfl
     rw [show (#[Operand.tmp 90, Operand.tmp 91] : Array Operand).map a.eval = #[.slice A0 l0.length c0, .agg #[.int .i64 t31, .int .i64 t32, .int .u64 t33, .string t34, .slice Au89 t35.length cu89]] by simp [Act.eval, h90, h91]]
     refine (zax.calls k A0 c0 l0 t31 t32 t33 t34 Au89 cu89 t35 t40 _ (Kd.zat (Kd.zbw HC0.out) hr) hc0 (Kd.zat (Kd.zbw HCu89.out) hr) hcu89 F41.out).mono ?_
     rintro e w3 ⟨v, rfl, hR, hb⟩
     exact ⟨_, rfl, hb, OneR.of hR⟩
    refine rgv (.slice A0 l0.length c0) ?_ ?_
    ·
     intro a w' hr hs
     have h0 := hs.ov 0 (.slice A0 l0.length c0)
     go_simp
    refine rgv (.agg #[.int .i64 t19, .int .i64 t20, .int .u64 t21, .string t22, .slice Au84 t23.length cu84]) ?_ ?_
    ·
     intro a w' hr hs
     have h14 := hs.ov 14 (.pointer (some ⟨b26_, 0, none⟩))
     have x := hr.at (zcg HXb26.out)
     have x0 := zad x 0
     have x1 := zad x 1
     have x2 := zad x 2
     have x3 := zad x 3
     have x4 := zad x 4
     simp only [ga] at x0 x1 x2 x3 x4
     go_simp
    refine rgc (OneR k33 33 t42 (fun u => u)) Try.func8 ?_ ?_
    ·
     intro a w' hr hs
     have h93 := hs.gv 1 rfl rfl
     have h94 := hs.gv 0 rfl rfl
     rw [show (#[Operand.tmp 93, Operand.tmp 94] : Array Operand).map a.eval = #[.slice A0 l0.length c0, .agg #[.int .i64 t19, .int .i64 t20, .int .u64 t21, .string t22, .slice Au84 t23.length cu84]] by simp [Act.eval, h93, h94]]
     refine (zax.calls k A0 c0 l0 t19 t20 t21 t22 Au84 cu84 t23 t42 _ (Kd.zat (Kd.zbw HC0.out) hr) hc0 (Kd.zat (Kd.zbw HCu84.out) hr) hcu84 F43.out).mono ?_
     rintro e w3 ⟨v, rfl, hR, hb⟩
     exact ⟨_, rfl, hb, OneR.of hR⟩
    refine rgk (OneR k33 33 t38 (fun u => u)) ?_ ?_
    ·
     intro a w' hr hs
     have g89 : OneR k33 33 t38 (fun u => u) (a.tmps[89]?.getD undef) w' := hs.g 6
     obtain ⟨A89, c89, h89, hc89, hC89, hR89⟩ := g89.reads
     replace h89 : a.tmps[89]?.getD undef = .slice A89 t38.length c89 := h89
     exact ⟨.slice A89 t38.length c89, by go_simp, _, rfl, hR89⟩
    refine rgk (OneR k33 33 t40 (fun u => u)) ?_ ?_
    ·
     intro a w' hr hs
     have g92 : OneR k33 33 t40 (fun u => u) (a.tmps[92]?.getD undef) w' := hs.g 4
     obtain ⟨A92, c92, h92, hc92, hC92, hR92⟩ := g92.reads
     replace h92 : a.tmps[92]?.getD undef = .slice A92 t40.length c92 := h92
     exact ⟨.slice A92 t40.length c92, by go_simp, _, rfl, hR92⟩
    refine rgk (OneR k33 33 t42 (fun u => u)) ?_ ?_
    ·
     intro a w' hr hs
     have g95 : OneR k33 33 t42 (fun u => u) (a.tmps[95]?.getD undef) w' := hs.g 2
     obtain ⟨A95, c95, h95, hc95, hC95, hR95⟩ := g95.reads
     replace h95 : a.tmps[95]?.getD undef = .slice A95 t42.length c95 := h95
     exact ⟨.slice A95 t42.length c95, by go_simp, _, rfl, hR95⟩
    intro vs w90_ hr hE
    have g_ : OneR k33 33 t38 (fun u => u) (vs 9) w90_ := hE _ (zbp 2 rfl)
    obtain ⟨Au91, cu91, e9, hcu91, hCu91, hRu91⟩ := g_.reads
    clear g_
    replace e9 : vs 9 = .slice Au91 t38.length cu91 := e9
    have HCu91 := zaa.mk hCu91
    clear hCu91
    have HRu91 := zaa.mk hRu91
    clear hRu91
    have g_ : OneR k33 33 t40 (fun u => u) (vs 10) w90_ := hE _ (zbp 1 rfl)
    obtain ⟨Au92, cu92, e10, hcu92, hCu92, hRu92⟩ := g_.reads
    clear g_
    replace e10 : vs 10 = .slice Au92 t40.length cu92 := e10
    have HCu92 := zaa.mk hCu92
    clear hCu92
    have HRu92 := zaa.mk hRu92
    clear hRu92
    have g_ : OneR k33 33 t42 (fun u => u) (vs 11) w90_ := hE _ (zbp 0 rfl)
    obtain ⟨Au93, cu93, e11, hcu93, hCu93, hRu93⟩ := g_.reads
    clear g_
    replace e11 : vs 11 = .slice Au93 t42.length cu93 := e11
    have HCu93 := zaa.mk hCu93
    clear hCu93
    have HRu93 := zaa.mk hRu93
    clear hRu93
    have hg : Grows w88_as w90_ := Below.trans (Below.refl w88_as.heap.size w88_as).drew hr
    clear hE hr
    rw [show List.range 12 = [0, 1, 2, 3, 4, 5, 6, 7, 8, 9, 10, 11] from rfl]
    simp only [ps, ga, pa, e9, e10, e11]
    clear e9 e10 e11
    refine zaU ?_
    simp only [Exit.then]
    replace HCu79 := cb HCu79 hg
    replace HCu84 := cb HCu84 hg
    replace HRu84 := rb HRu84 hg
    replace HCu89 := cb HCu89 hg
    replace HRu89 := rb HRu89 hg
    replace HXb1 := ab HXb1 hg
    replace HXb26 := ab HXb26 hg
    replace HXb37 := ab HXb37 hg
    replace HB := hbm HB hg
    clear hg
    replace HC0 := cb PHC0 HB.out
    replace HC1_4 := cb PHC1_4 HB.out
    refine wp_seq ?_
    refine wp_seq ?_
    replace h := Option.bind_eq_some_iff.1 h
    obtain ⟨t44, F45, h⟩ := h
    try dsimp only at h
    replace F45 := zaa.mk F45
    replace h := Option.bind_eq_some_iff.1 h
    obtain ⟨t46, F47, h⟩ := h
    try dsimp only at h
    replace F47 := zaa.mk F47
    refine rgt (N := 187) 14 ?_
    rw [show List.range 14 = [0, 1, 2, 3, 4, 5, 6, 7, 8, 9, 10, 11, 12, 13] from rfl]
    refine rgv (.slice Au92 t40.length cu92) ?_ ?_
    ·
     intro a w' hr hs
     have h18 := hs.ov 18 (.slice Au92 t40.length cu92)
     go_simp
    refine rgv (.slice Au91 t38.length cu91) ?_ ?_
    ·
     intro a w' hr hs
     have h17 := hs.ov 17 (.slice Au91 t38.length cu91)
     go_simp
    refine rgc (fun v _ => v = .bool t44) Try.func26 ?_ ?_
    ·
     intro a w' hr hs
     have h96 := hs.gv 1 rfl rfl
     have h97 := hs.gv 0 rfl rfl
     rw [show (#[Operand.tmp 96, Operand.tmp 97] : Array Operand).map a.eval = #[.slice Au92 t40.length cu92, .slice Au91 t38.length cu91] by simp [Act.eval, h96, h97]]
     refine (zaj.calls k Au92 cu92 t40 Au91 cu91 t38 t44 _ (Kd.zat HCu92.out hr) hcu92 (Kd.zat HCu91.out hr) hcu91 F45.out).mono ?_
     rintro e w3 ⟨rfl, hb⟩
     exact ⟨_, rfl, hb.below, rfl⟩
    refine rgv (.bool (!t44)) ?_ ?_
    ·
     intro a w' hr hs
     have h98 := hs.gv 0 rfl rfl
     go_simp
    refine rgv (.bool (!t44)) ?_ ?_
    ·
     intro a w' hr hs
     have h99 := hs.gv 0 rfl rfl
     go_simp
    refine zaL (!(!t44)) (fun v _ => v = .int .i64 t24) (fun _ _ _ _ h => h) Grows.refl rfl (fun hb a w hr hs => (zaG (g := 4) (t := 100) (b' := (!t44)) rfl rfl (hs.g 0)).trans (gd_f hb)) (fun hb => ?_) ?_
    ·
     skip
     refine za2 (.int .i64 t24) Grows.refl rfl (fun a w hr hs => zal (g := 4) (t := 100) rfl rfl ((show a.tmps[100]?.getD undef = .bool (!t44) from hs.g 0).trans (congrArg Value.bool (not_t hb)))) ?_
     ·
      intro a w' hr hs
      have h15 := hs.ov 15 (.int .i64 t24)
      go_simp
    refine zaL (!(!t44)) (fun v _ => v = .bool (t24 == 0)) (fun _ _ _ _ h => h) Grows.refl rfl (fun hb a w hr hs => (zaG (g := 4) (t := 100) (b' := (!t44)) rfl rfl (hs.g 1)).trans (gd_f hb)) (fun hb => ?_) ?_
    ·
     skip
     refine za2 (.bool (t24 == 0)) Grows.refl rfl (fun a w hr hs => zal (g := 4) (t := 100) rfl rfl ((show a.tmps[100]?.getD undef = .bool (!t44) from hs.g 1).trans (congrArg Value.bool (not_t hb)))) ?_
     ·
      intro a w' hr hs
      have h101 : a.tmps[101]?.getD undef = .int .i64 t24 := (hs.g 0).1 hb
      go_simp
    refine zaL (!(!t44)) (fun v _ => v = .bool (t24 == 0)) (fun _ _ _ _ h => h) Grows.refl rfl (fun hb a w hr hs => (zaG (g := 4) (t := 100) (b' := (!t44)) rfl rfl (hs.g 2)).trans (gd_f hb)) (fun hb => ?_) ?_
    ·
     skip
     refine za2 (.bool (t24 == 0)) Grows.refl rfl (fun a w hr hs => zal (g := 4) (t := 100) rfl rfl ((show a.tmps[100]?.getD undef = .bool (!t44) from hs.g 2).trans (congrArg Value.bool (not_t hb)))) ?_
     ·
      intro a w' hr hs
      have h102 : a.tmps[102]?.getD undef = .bool (t24 == 0) := (hs.g 0).1 hb
      go_simp
    refine zaL ((!(!t44)) && (t24 == 0)) (fun v _ => v = .slice Au93 t42.length cu93) (fun _ _ _ _ h => h) Grows.refl rfl (fun hb a w hr hs => by cases he : (!(!t44)) with | false => exact zbD (g := 7) (t := 103) rfl rfl ((hs.g 0).2 he) | true => exact (zaG (g := 7) (t := 103) (b' := (t24 == 0)) rfl rfl ((hs.g 0).1 he)).trans (gd_t (and_f hb he))) (fun hb => ?_) ?_
    ·
     skip
     refine za2 (.slice Au93 t42.length cu93) Grows.refl rfl (fun a w hr hs => zal (g := 7) (t := 103) rfl rfl ((show a.tmps[103]?.getD undef = .bool (t24 == 0) from ((hs.g 0).1 (and_l hb))).trans (congrArg Value.bool (and_r hb)))) ?_
     ·
      intro a w' hr hs
      have h19 := hs.ov 19 (.slice Au93 t42.length cu93)
      go_simp
    refine zaL ((!(!t44)) && (t24 == 0)) (fun v _ => v = .slice Au92 t40.length cu92) (fun _ _ _ _ h => h) Grows.refl rfl (fun hb a w hr hs => by cases he : (!(!t44)) with | false => exact zbD (g := 7) (t := 103) rfl rfl ((hs.g 1).2 he) | true => exact (zaG (g := 7) (t := 103) (b' := (t24 == 0)) rfl rfl ((hs.g 1).1 he)).trans (gd_t (and_f hb he))) (fun hb => ?_) ?_
    ·
     skip
     refine za2 (.slice Au92 t40.length cu92) Grows.refl rfl (fun a w hr hs => zal (g := 7) (t := 103) rfl rfl ((show a.tmps[103]?.getD undef = .bool (t24 == 0) from ((hs.g 1).1 (and_l hb))).trans (congrArg Value.bool (and_r hb)))) ?_
     ·
      intro a w' hr hs
      have h18 := hs.ov 18 (.slice Au92 t40.length cu92)
      go_simp
    refine zaL ((!(!t44)) && (t24 == 0)) (fun v _ => v = .bool t46) (fun _ _ _ _ h => h) Grows.refl rfl (fun hb a w hr hs => by cases he : (!(!t44)) with | false => exact zbD (g := 7) (t := 103) rfl rfl ((hs.g 2).2 he) | true => exact (zaG (g := 7) (t := 103) (b' := (t24 == 0)) rfl rfl ((hs.g 2).1 he)).trans (gd_t (and_f hb he))) (fun hb => ?_) ?_
    ·
     skip
     refine zcJ (fun v _ => v = .bool t46) rfl rfl Try.func26 k9 rfl (fun a w hr hs => zal (g := 7) (t := 103) rfl rfl ((show a.tmps[103]?.getD undef = .bool (t24 == 0) from ((hs.g 2).1 (and_l hb))).trans (congrArg Value.bool (and_r hb)))) ?_
     ·
      intro a w' hr hs
      have h104 : a.tmps[104]?.getD undef = .slice Au93 t42.length cu93 := (hs.g 1).1 hb
      have h105 : a.tmps[105]?.getD undef = .slice Au92 t40.length cu92 := (hs.g 0).1 hb
      rw [show (#[Operand.tmp 104, Operand.tmp 105] : Array Operand).map a.eval = #[.slice Au93 t42.length cu93, .slice Au92 t40.length cu92] by simp [Act.eval, h104, h105]]
      refine (zaj.calls k Au93 cu93 t42 Au92 cu92 t40 t46 _ (Kd.zat HCu93.out hr) hcu93 (Kd.zat HCu92.out hr) hcu92 ((if_pos hb).symm.trans F47.out)).mono ?_
      rintro e w3 ⟨rfl, hb⟩
      exact ⟨_, rfl, hb.below, rfl⟩
    refine zaL ((!(!t44)) && (t24 == 0)) (fun v _ => v = .bool (!t46)) (fun _ _ _ _ h => h) Grows.refl rfl (fun hb a w hr hs => by cases he : (!(!t44)) with | false => exact zbD (g := 7) (t := 103) rfl rfl ((hs.g 3).2 he) | true => exact (zaG (g := 7) (t := 103) (b' := (t24 == 0)) rfl rfl ((hs.g 3).1 he)).trans (gd_t (and_f hb he))) (fun hb => ?_) ?_
    ·
     skip
     refine za2 (.bool (!t46)) Grows.refl rfl (fun a w hr hs => zal (g := 7) (t := 103) rfl rfl ((show a.tmps[103]?.getD undef = .bool (t24 == 0) from ((hs.g 3).1 (and_l hb))).trans (congrArg Value.bool (and_r hb)))) ?_
     ·
      intro a w' hr hs
      have h106 : a.tmps[106]?.getD undef = .bool t46 := (hs.g 0).1 hb
      go_simp
    refine zaL (!(!t44)) (fun v _ => v = .bool ((t24 == 0) && (!t46))) (fun _ _ _ _ h => h) Grows.refl rfl (fun hb a w hr hs => (zaG (g := 4) (t := 100) (b' := (!t44)) rfl rfl (hs.g 7)).trans (gd_f hb)) (fun hb => ?_) ?_
    ·
     skip
     refine za2 (.bool ((t24 == 0) && (!t46))) Grows.refl rfl (fun a w hr hs => zal (g := 4) (t := 100) rfl rfl ((show a.tmps[100]?.getD undef = .bool (!t44) from hs.g 7).trans (congrArg Value.bool (not_t hb)))) ?_
     ·
      intro a w' hr hs
      have h103 : a.tmps[103]?.getD undef = .bool (t24 == 0) := (hs.g 4).1 hb
      rcases Bool.eq_false_or_eq_true (t24 == 0) with hq | hq
      ·
       rw [hq] at h103
       have h107 : a.tmps[107]?.getD undef = .bool (!t46) := (hs.g 0).1 (by rw [hb, hq]; rfl)
       rw [show ((t24 == 0) && (!t46)) = (!t46) by rw [hq]; first | rfl | simp]
       go_simp
      ·
       rw [hq] at h103
       rw [show ((t24 == 0) && (!t46)) = false by rw [hq]; first | rfl | simp]
       go_simp
    refine rgv (.bool ((!t44) || ((t24 == 0) && (!t46)))) ?_ ?_
    ·
     intro a w' hr hs
     have h100 := hs.gv 8 rfl rfl
     rcases Bool.eq_false_or_eq_true (!t44) with hq | hq
     ·
      rw [hq] at h100
      rw [show ((!t44) || ((t24 == 0) && (!t46))) = true by rw [hq]; first | rfl | simp]
      go_simp
     ·
      rw [hq] at h100
      have h108 : a.tmps[108]?.getD undef = .bool ((t24 == 0) && (!t46)) := (hs.g 0).1 (by rw [hq]; rfl)
      rw [show ((!t44) || ((t24 == 0) && (!t46))) = ((t24 == 0) && (!t46)) by rw [hq]; first | rfl | simp]
      go_simp
    intro vs w94_ hr hE
    have e13 : vs 13 = .bool ((!t44) || ((t24 == 0) && (!t46))) := hE _ (zbp 0 rfl)
    have hg : Grows w90_ w94_ := hr
    clear hE hr
    rw [show List.range 14 = [0, 1, 2, 3, 4, 5, 6, 7, 8, 9, 10, 11, 12, 13] from rfl]
    simp only [ps, ga, pa, e13]
    clear e13
    have hT : Grows w94_ w94_ := Grows.refl _
    replace hg : Grows w90_ w94_ := hg.trans hT
    clear hT
    refine zaU ?_
    simp only [Exit.then]
    replace HCu79 := cb HCu79 hg
    replace HCu84 := cb HCu84 hg
    replace HRu84 := rb HRu84 hg
    replace HCu89 := cb HCu89 hg
    replace HRu89 := rb HRu89 hg
    replace HCu91 := cb HCu91 hg
    replace HRu91 := rb HRu91 hg
    replace HCu92 := cb HCu92 hg
    replace HRu92 := rb HRu92 hg
    replace HCu93 := cb HCu93 hg
    replace HRu93 := rb HRu93 hg
    replace HXb1 := ab HXb1 hg
    replace HXb26 := ab HXb26 hg
    replace HXb37 := ab HXb37 hg
    replace HB := hbm HB hg
    clear hg
    replace HC0 := cb PHC0 HB.out
    replace HC1_4 := cb PHC1_4 HB.out
    by_cases q95 : ((!t44) || ((t24 == 0) && (!t46))) = true
    ·
     rw [if_pos q95] at h
     cases h
    ·
     rw [if_neg q95] at h
     have q95a : ((!t44) || ((t24 == 0) && (!t46))) = false := by simpa only [Bool.not_eq_true] using q95
     clear q95
     refine wp_cond (t := ((!t44) || ((t24 == 0) && (!t46)))) (by simp [Act.eval]) ?_
     rw [if_neg (by rw [q95a]; exact Bool.false_ne_true)]
     refine wp_skip ?_
     simp only [Exit.then]
     refine wp_seq ?_
     refine wp_seq ?_
     replace h := Option.bind_eq_some_iff.1 h
     obtain ⟨t48, F49, h⟩ := h
     try dsimp only at h
     replace F49 := zaa.mk F49
     replace h := Option.bind_eq_some_iff.1 h
     obtain ⟨t50, F51, h⟩ := h
     try dsimp only at h
     replace F51 := zaa.mk F51
     replace h := Option.bind_eq_some_iff.1 h
     obtain ⟨t52, F53, h⟩ := h
     try dsimp only at h
     replace F53 := zaa.mk F53
     replace h := Option.bind_eq_some_iff.1 h
     obtain ⟨t54, F55, h⟩ := h
     try dsimp only at h
     replace F55 := zaa.mk F55
     refine rgt (N := 187) 29 ?_
     rw [show List.range 29 = [0, 1, 2, 3, 4, 5, 6, 7, 8, 9, 10, 11, 12, 13, 14, 15, 16, 17, 18, 19, 20, 21, 22, 23, 24, 25, 26, 27, 28] from rfl]
     refine rgv (.string a3) ?_ ?_
     ·
      intro a w' hr hs
      have h3 := hs.ov 3 (.string a3)
      go_simp
     refine rgc (fun v _ => v = .bool t48) Try.func27 ?_ ?_
     ·
      intro a w' hr hs
      have h110 := hs.gv 0 rfl rfl
      rw [show (#[Operand.tmp 110] : Array Operand).map a.eval = #[.string a3] by simp [Act.eval, h110]]
      refine (zbu.calls a3 t48 _ F49.out).mono ?_
      rintro e w3 ⟨rfl, hb⟩
      exact ⟨_, rfl, hb, rfl⟩
     refine rgv (.bool t48) ?_ ?_
     ·
      intro a w' hr hs
      have h111 := hs.gv 0 rfl rfl
      go_simp
     refine zaL t48 (fun v _ => v = .int .i64 t24) (fun _ _ _ _ h => h) Grows.refl rfl (fun hb a w hr hs => (zaG (g := 2) (t := 112) (b' := t48) rfl rfl (hs.g 0)).trans (gd_t hb)) (fun hb => ?_) ?_
     ·
      skip
      refine za2 (.int .i64 t24) Grows.refl rfl (fun a w hr hs => zal (g := 2) (t := 112) rfl rfl ((show a.tmps[112]?.getD undef = .bool t48 from hs.g 0).trans (congrArg Value.bool hb))) ?_
      ·
       intro a w' hr hs
       have h15 := hs.ov 15 (.int .i64 t24)
       go_simp
     refine zaL t48 (fun v _ => v = .bool (t24 == 0)) (fun _ _ _ _ h => h) Grows.refl rfl (fun hb a w hr hs => (zaG (g := 2) (t := 112) (b' := t48) rfl rfl (hs.g 1)).trans (gd_t hb)) (fun hb => ?_) ?_
     ·
      skip
      refine za2 (.bool (t24 == 0)) Grows.refl rfl (fun a w hr hs => zal (g := 2) (t := 112) rfl rfl ((show a.tmps[112]?.getD undef = .bool t48 from hs.g 1).trans (congrArg Value.bool hb))) ?_
      ·
       intro a w' hr hs
       have h113 : a.tmps[113]?.getD undef = .int .i64 t24 := (hs.g 0).1 hb
       go_simp
     refine zaL t48 (fun v _ => v = .slice A0 l0.length c0) (fun _ _ _ _ h => h) Grows.refl rfl (fun hb a w hr hs => (zaG (g := 2) (t := 112) (b' := t48) rfl rfl (hs.g 2)).trans (gd_t hb)) (fun hb => ?_) ?_
     ·
      skip
      refine za2 (.slice A0 l0.length c0) Grows.refl rfl (fun a w hr hs => zal (g := 2) (t := 112) rfl rfl ((show a.tmps[112]?.getD undef = .bool t48 from hs.g 2).trans (congrArg Value.bool hb))) ?_
      ·
       intro a w' hr hs
       have h0 := hs.ov 0 (.slice A0 l0.length c0)
       go_simp
     refine zaL t48 (fun v _ => v = .string a3) (fun _ _ _ _ h => h) Grows.refl rfl (fun hb a w hr hs => (zaG (g := 2) (t := 112) (b' := t48) rfl rfl (hs.g 3)).trans (gd_t hb)) (fun hb => ?_) ?_
     ·
      skip
      refine za2 (.string a3) Grows.refl rfl (fun a w hr hs => zal (g := 2) (t := 112) rfl rfl ((show a.tmps[112]?.getD undef = .bool t48 from hs.g 3).trans (congrArg Value.bool hb))) ?_
      ·
       intro a w' hr hs
       have h3 := hs.ov 3 (.string a3)
       go_simp
     refine zaL t48 (OneR k33 33 t50 (fun u => u)) OneR.grows Grows.refl rfl (fun hb a w hr hs => (zaG (g := 2) (t := 112) (b' := t48) rfl rfl (hs.g 4)).trans (gd_t hb)) (fun hb => ?_) ?_
     ·
      skip
      refine zcJ (OneR k33 33 t50 (fun u => u)) rfl rfl Try.func28 k9 rfl (fun a w hr hs => zal (g := 2) (t := 112) rfl rfl ((show a.tmps[112]?.getD undef = .bool t48 from hs.g 4).trans (congrArg Value.bool hb))) ?_
      ·
       intro a w' hr hs
       have h115 : a.tmps[115]?.getD undef = .slice A0 l0.length c0 := (hs.g 1).1 hb
       have h116 : a.tmps[116]?.getD undef = .string a3 := (hs.g 0).1 hb
       rw [show (#[Operand.tmp 115, Operand.tmp 116] : Array Operand).map a.eval = #[.slice A0 l0.length c0, .string a3] by simp [Act.eval, h115, h116]]
       refine (zav.calls k A0 c0 l0 a3 t50 _ (Kd.zat HC0.out hr) hc0 ((if_pos hb).symm.trans F51.out)).mono ?_
       rintro e w3 ⟨v, rfl, hR, hb⟩
       exact ⟨_, rfl, hb, OneR.of hR⟩
     refine zaL t48 (fun v _ => v = .slice Au92 t40.length cu92) (fun _ _ _ _ h => h) Grows.refl rfl (fun hb a w hr hs => (zaG (g := 2) (t := 112) (b' := t48) rfl rfl (hs.g 5)).trans (gd_t hb)) (fun hb => ?_) ?_
     ·
      skip
      refine za2 (.slice Au92 t40.length cu92) Grows.refl rfl (fun a w hr hs => zal (g := 2) (t := 112) rfl rfl ((show a.tmps[112]?.getD undef = .bool t48 from hs.g 5).trans (congrArg Value.bool hb))) ?_
      ·
       intro a w' hr hs
       have h18 := hs.ov 18 (.slice Au92 t40.length cu92)
       go_simp
     refine zaL t48 (fun v _ => v = .bool t52) (fun _ _ _ _ h => h) Grows.refl rfl (fun hb a w hr hs => (zaG (g := 2) (t := 112) (b' := t48) rfl rfl (hs.g 6)).trans (gd_t hb)) (fun hb => ?_) ?_
     ·
      skip
      refine zcJ (fun v _ => v = .bool t52) rfl rfl Try.func26 k9 rfl (fun a w hr hs => zal (g := 2) (t := 112) rfl rfl ((show a.tmps[112]?.getD undef = .bool t48 from hs.g 6).trans (congrArg Value.bool hb))) ?_
      ·
       intro a w' hr hs
       have g117 : OneR k33 33 t50 (fun u => u) (a.tmps[117]?.getD undef) w' := (hs.g 1).1 hb
       obtain ⟨A117, c117, h117, hc117, hC117, hR117⟩ := g117.reads
       replace h117 : a.tmps[117]?.getD undef = .slice A117 t50.length c117 := h117
       have h118 : a.tmps[118]?.getD undef = .slice Au92 t40.length cu92 := (hs.g 0).1 hb
       rw [show (#[Operand.tmp 117, Operand.tmp 118] : Array Operand).map a.eval = #[.slice A117 t50.length c117, .slice Au92 t40.length cu92] by simp [Act.eval, h117, h118]]
       refine (zaj.calls k A117 c117 t50 Au92 cu92 t40 t52 _ hC117 hc117 (Kd.zat HCu92.out hr) hcu92 ((if_pos hb).symm.trans F53.out)).mono ?_
       rintro e w3 ⟨rfl, hb⟩
       exact ⟨_, rfl, hb.below, rfl⟩
     refine zaL t48 (fun v _ => v = .bool (!((t24 == 0) == t52))) (fun _ _ _ _ h => h) Grows.refl rfl (fun hb a w hr hs => (zaG (g := 2) (t := 112) (b' := t48) rfl rfl (hs.g 7)).trans (gd_t hb)) (fun hb => ?_) ?_
     ·
      skip
      refine za2 (.bool (!((t24 == 0) == t52))) Grows.refl rfl (fun a w hr hs => zal (g := 2) (t := 112) rfl rfl ((show a.tmps[112]?.getD undef = .bool t48 from hs.g 7).trans (congrArg Value.bool hb))) ?_
      ·
       intro a w' hr hs
       have h114 : a.tmps[114]?.getD undef = .bool (t24 == 0) := (hs.g 5).1 hb
       have h119 : a.tmps[119]?.getD undef = .bool t52 := (hs.g 0).1 hb
       go_simp
     refine rgv (.bool (t48 && (!((t24 == 0) == t52)))) ?_ ?_
     ·
      intro a w' hr hs
      have h112 := hs.gv 8 rfl rfl
      rcases Bool.eq_false_or_eq_true t48 with hq | hq
      ·
       rw [hq] at h112
       have h120 : a.tmps[120]?.getD undef = .bool (!((t24 == 0) == t52)) := (hs.g 0).1 hq
       rw [show (t48 && (!((t24 == 0) == t52))) = (!((t24 == 0) == t52)) by rw [hq]; first | rfl | simp]
       go_simp
      ·
       rw [hq] at h112
       rw [show (t48 && (!((t24 == 0) == t52))) = false by rw [hq]; first | rfl | simp]
       go_simp
     refine rgv (.bool (t48 && (!((t24 == 0) == t52)))) ?_ ?_
     ·
      intro a w' hr hs
      have h121 := hs.gv 0 rfl rfl
      go_simp
     refine zaL (!(t48 && (!((t24 == 0) == t52)))) (fun v _ => v = .string a3) (fun _ _ _ _ h => h) Grows.refl rfl (fun hb a w hr hs => (zaG (g := 12) (t := 122) (b' := (t48 && (!((t24 == 0) == t52)))) rfl rfl (hs.g 0)).trans (gd_f hb)) (fun hb => ?_) ?_
     ·
      skip
      refine za2 (.string a3) Grows.refl rfl (fun a w hr hs => zal (g := 12) (t := 122) rfl rfl ((show a.tmps[122]?.getD undef = .bool (t48 && (!((t24 == 0) == t52))) from hs.g 0).trans (congrArg Value.bool (not_t hb)))) ?_
      ·
       intro a w' hr hs
       have h3 := hs.ov 3 (.string a3)
       go_simp
     refine zaL (!(t48 && (!((t24 == 0) == t52)))) (fun v _ => v = .bool t54) (fun _ _ _ _ h => h) Grows.refl rfl (fun hb a w hr hs => (zaG (g := 12) (t := 122) (b' := (t48 && (!((t24 == 0) == t52)))) rfl rfl (hs.g 1)).trans (gd_f hb)) (fun hb => ?_) ?_
     ·
      skip
      refine zcJ (fun v _ => v = .bool t54) rfl rfl Try.func29 k9 rfl (fun a w hr hs => zal (g := 12) (t := 122) rfl rfl ((show a.tmps[122]?.getD undef = .bool (t48 && (!((t24 == 0) == t52))) from hs.g 1).trans (congrArg Value.bool (not_t hb)))) ?_
      ·
       intro a w' hr hs
       have h123 : a.tmps[123]?.getD undef = .string a3 := (hs.g 0).1 hb
       rw [show (#[Operand.tmp 123] : Array Operand).map a.eval = #[.string a3] by simp [Act.eval, h123]]
       refine (zbO.calls a3 t54 _ ((if_pos hb).symm.trans F55.out)).mono ?_
       rintro e w3 ⟨rfl, hb⟩
       exact ⟨_, rfl, hb, rfl⟩
     refine zaL (!(t48 && (!((t24 == 0) == t52)))) (fun v _ => v = .bool t54) (fun _ _ _ _ h => h) Grows.refl rfl (fun hb a w hr hs => (zaG (g := 12) (t := 122) (b' := (t48 && (!((t24 == 0) == t52)))) rfl rfl (hs.g 2)).trans (gd_f hb)) (fun hb => ?_) ?_
     ·
      skip
      refine za2 (.bool t54) Grows.refl rfl (fun a w hr hs => zal (g := 12) (t := 122) rfl rfl ((show a.tmps[122]?.getD undef = .bool (t48 && (!((t24 == 0) == t52))) from hs.g 2).trans (congrArg Value.bool (not_t hb)))) ?_
      ·
       intro a w' hr hs
       have h124 : a.tmps[124]?.getD undef = .bool t54 := (hs.g 0).1 hb
       go_simp
     refine zaL ((!(t48 && (!((t24 == 0) == t52)))) && t54) (fun v _ => v = .int .i64 t24) (fun _ _ _ _ h => h) Grows.refl rfl (fun hb a w hr hs => by cases he : (!(t48 && (!((t24 == 0) == t52)))) with | false => exact zbD (g := 15) (t := 125) rfl rfl ((hs.g 0).2 he) | true => exact (zaG (g := 15) (t := 125) (b' := t54) rfl rfl ((hs.g 0).1 he)).trans (gd_t (and_f hb he))) (fun hb => ?_) ?_
     ·
      skip
      refine za2 (.int .i64 t24) Grows.refl rfl (fun a w hr hs => zal (g := 15) (t := 125) rfl rfl ((show a.tmps[125]?.getD undef = .bool t54 from ((hs.g 0).1 (and_l hb))).trans (congrArg Value.bool (and_r hb)))) ?_
      ·
       intro a w' hr hs
       have h15 := hs.ov 15 (.int .i64 t24)
       go_simp
     refine zaL ((!(t48 && (!((t24 == 0) == t52)))) && t54) (fun v _ => v = .int .i64 a4) (fun _ _ _ _ h => h) Grows.refl rfl (fun hb a w hr hs => by cases he : (!(t48 && (!((t24 == 0) == t52)))) with | false => exact zbD (g := 15) (t := 125) rfl rfl ((hs.g 1).2 he) | true => exact (zaG (g := 15) (t := 125) (b' := t54) rfl rfl ((hs.g 1).1 he)).trans (gd_t (and_f hb he))) (fun hb => ?_) ?_
     ·
      skip
      refine za2 (.int .i64 a4) Grows.refl rfl (fun a w hr hs => zal (g := 15) (t := 125) rfl rfl ((show a.tmps[125]?.getD undef = .bool t54 from ((hs.g 1).1 (and_l hb))).trans (congrArg Value.bool (and_r hb)))) ?_
      ·
       intro a w' hr hs
       have h4 := hs.ov 4 (.int .i64 a4)
       go_simp
     refine zaL ((!(t48 && (!((t24 == 0) == t52)))) && t54) (fun v _ => v = .bool (t24 != a4)) (fun _ _ _ _ h => h) Grows.refl rfl (fun hb a w hr hs => by cases he : (!(t48 && (!((t24 == 0) == t52)))) with | false => exact zbD (g := 15) (t := 125) rfl rfl ((hs.g 2).2 he) | true => exact (zaG (g := 15) (t := 125) (b' := t54) rfl rfl ((hs.g 2).1 he)).trans (gd_t (and_f hb he))) (fun hb => ?_) ?_
     ·
      skip
      refine za2 (.bool (t24 != a4)) Grows.refl rfl (fun a w hr hs => zal (g := 15) (t := 125) rfl rfl ((show a.tmps[125]?.getD undef = .bool t54 from ((hs.g 2).1 (and_l hb))).trans (congrArg Value.bool (and_r hb)))) ?_
      ·
       intro a w' hr hs
       have h126 : a.tmps[126]?.getD undef = .int .i64 t24 := (hs.g 1).1 hb
       have h127 : a.tmps[127]?.getD undef = .int .i64 a4 := (hs.g 0).1 hb
       go_simp
     refine zaL (!(t48 && (!((t24 == 0) == t52)))) (fun v _ => v = .bool (t54 && (t24 != a4))) (fun _ _ _ _ h => h) Grows.refl rfl (fun hb a w hr hs => (zaG (g := 12) (t := 122) (b' := (t48 && (!((t24 == 0) == t52)))) rfl rfl (hs.g 6)).trans (gd_f hb)) (fun hb => ?_) ?_
     ·
      skip
      refine za2 (.bool (t54 && (t24 != a4))) Grows.refl rfl (fun a w hr hs => zal (g := 12) (t := 122) rfl rfl ((show a.tmps[122]?.getD undef = .bool (t48 && (!((t24 == 0) == t52))) from hs.g 6).trans (congrArg Value.bool (not_t hb)))) ?_
      ·
       intro a w' hr hs
       have h125 : a.tmps[125]?.getD undef = .bool t54 := (hs.g 3).1 hb
       rcases Bool.eq_false_or_eq_true t54 with hq | hq
       ·
        rw [hq] at h125
        have h128 : a.tmps[128]?.getD undef = .bool (t24 != a4) := (hs.g 0).1 (by rw [hb, hq]; rfl)
        rw [show (t54 && (t24 != a4)) = (t24 != a4) by rw [hq]; first | rfl | simp]
        go_simp
       ·
        rw [hq] at h125
        rw [show (t54 && (t24 != a4)) = false by rw [hq]; first | rfl | simp]
        go_simp
     refine rgv (.bool ((t48 && (!((t24 == 0) == t52))) || (t54 && (t24 != a4)))) ?_ ?_
     ·
      intro a w' hr hs
      have h122 := hs.gv 7 rfl rfl
      rcases Bool.eq_false_or_eq_true (t48 && (!((t24 == 0) == t52))) with hq | hq
      ·
       rw [hq] at h122
       rw [show ((t48 && (!((t24 == 0) == t52))) || (t54 && (t24 != a4))) = true by rw [hq]; first | rfl | simp]
       go_simp
      ·
       rw [hq] at h122
       have h129 : a.tmps[129]?.getD undef = .bool (t54 && (t24 != a4)) := (hs.g 0).1 (by rw [hq]; rfl)
       rw [show ((t48 && (!((t24 == 0) == t52))) || (t54 && (t24 != a4))) = (t54 && (t24 != a4)) by rw [hq]; first | rfl | simp]
       go_simp
     refine rgv (.bool ((t48 && (!((t24 == 0) == t52))) || (t54 && (t24 != a4)))) ?_ ?_
     ·
      intro a w' hr hs
      have h130 := hs.gv 0 rfl rfl
      go_simp
     refine zaL (!((t48 && (!((t24 == 0) == t52))) || (t54 && (t24 != a4)))) (fun v _ => v = .string a3) (fun _ _ _ _ h => h) Grows.refl rfl (fun hb a w hr hs => (zaG (g := 21) (t := 131) (b' := ((t48 && (!((t24 == 0) == t52))) || (t54 && (t24 != a4)))) rfl rfl (hs.g 0)).trans (gd_f hb)) (fun hb => ?_) ?_
     ·
      skip
      refine za2 (.string a3) Grows.refl rfl (fun a w hr hs => zal (g := 21) (t := 131) rfl rfl ((show a.tmps[131]?.getD undef = .bool ((t48 && (!((t24 == 0) == t52))) || (t54 && (t24 != a4))) from hs.g 0).trans (congrArg Value.bool (not_t hb)))) ?_
      ·
       intro a w' hr hs
       have h3 := hs.ov 3 (.string a3)
       go_simp
     refine zaL (!((t48 && (!((t24 == 0) == t52))) || (t54 && (t24 != a4)))) (fun v _ => v = .bool (a3.toList == [63])) (fun _ _ _ _ h => h) Grows.refl rfl (fun hb a w hr hs => (zaG (g := 21) (t := 131) (b' := ((t48 && (!((t24 == 0) == t52))) || (t54 && (t24 != a4)))) rfl rfl (hs.g 1)).trans (gd_f hb)) (fun hb => ?_) ?_
     ·
      skip
      refine za2 (.bool (a3.toList == [63])) Grows.refl rfl (fun a w hr hs => zal (g := 21) (t := 131) rfl rfl ((show a.tmps[131]?.getD undef = .bool ((t48 && (!((t24 == 0) == t52))) || (t54 && (t24 != a4))) from hs.g 1).trans (congrArg Value.bool (not_t hb)))) ?_
      ·
       intro a w' hr hs
       have h132 : a.tmps[132]?.getD undef = .string a3 := (hs.g 0).1 hb
       go_simp
     refine zaL (!((t48 && (!((t24 == 0) == t52))) || (t54 && (t24 != a4)))) (fun v _ => v = .bool (a3.toList == [63])) (fun _ _ _ _ h => h) Grows.refl rfl (fun hb a w hr hs => (zaG (g := 21) (t := 131) (b' := ((t48 && (!((t24 == 0) == t52))) || (t54 && (t24 != a4)))) rfl rfl (hs.g 2)).trans (gd_f hb)) (fun hb => ?_) ?_
     ·
      skip
      refine za2 (.bool (a3.toList == [63])) Grows.refl rfl (fun a w hr hs => zal (g := 21) (t := 131) rfl rfl ((show a.tmps[131]?.getD undef = .bool ((t48 && (!((t24 == 0) == t52))) || (t54 && (t24 != a4))) from hs.g 2).trans (congrArg Value.bool (not_t hb)))) ?_
      ·
       intro a w' hr hs
       have h133 : a.tmps[133]?.getD undef = .bool (a3.toList == [63]) := (hs.g 0).1 hb
       go_simp
     refine zaL ((!((t48 && (!((t24 == 0) == t52))) || (t54 && (t24 != a4)))) && (a3.toList == [63])) (fun v _ => v = .int .i64 t24) (fun _ _ _ _ h => h) Grows.refl rfl (fun hb a w hr hs => by cases he : (!((t48 && (!((t24 == 0) == t52))) || (t54 && (t24 != a4)))) with | false => exact zbD (g := 24) (t := 134) rfl rfl ((hs.g 0).2 he) | true => exact (zaG (g := 24) (t := 134) (b' := (a3.toList == [63])) rfl rfl ((hs.g 0).1 he)).trans (gd_t (and_f hb he))) (fun hb => ?_) ?_
     ·
      skip
      refine za2 (.int .i64 t24) Grows.refl rfl (fun a w hr hs => zal (g := 24) (t := 134) rfl rfl ((show a.tmps[134]?.getD undef = .bool (a3.toList == [63]) from ((hs.g 0).1 (and_l hb))).trans (congrArg Value.bool (and_r hb)))) ?_
      ·
       intro a w' hr hs
       have h15 := hs.ov 15 (.int .i64 t24)
       go_simp
     refine zaL ((!((t48 && (!((t24 == 0) == t52))) || (t54 && (t24 != a4)))) && (a3.toList == [63])) (fun v _ => v = .bool (t24 != 0)) (fun _ _ _ _ h => h) Grows.refl rfl (fun hb a w hr hs => by cases he : (!((t48 && (!((t24 == 0) == t52))) || (t54 && (t24 != a4)))) with | false => exact zbD (g := 24) (t := 134) rfl rfl ((hs.g 1).2 he) | true => exact (zaG (g := 24) (t := 134) (b' := (a3.toList == [63])) rfl rfl ((hs.g 1).1 he)).trans (gd_t (and_f hb he))) (fun hb => ?_) ?_
     ·
      skip
      refine za2 (.bool (t24 != 0)) Grows.refl rfl (fun a w hr hs => zal (g := 24) (t := 134) rfl rfl ((show a.tmps[134]?.getD undef = .bool (a3.toList == [63]) from ((hs.g 1).1 (and_l hb))).trans (congrArg Value.bool (and_r hb)))) ?_
      ·
       intro a w' hr hs
       have h135 : a.tmps[135]?.getD undef = .int .i64 t24 := (hs.g 0).1 hb
       go_simp
     refine zaL (!((t48 && (!((t24 == 0) == t52))) || (t54 && (t24 != a4)))) (fun v _ => v = .bool ((a3.toList == [63]) && (t24 != 0))) (fun _ _ _ _ h => h) Grows.refl rfl (fun hb a w hr hs => (zaG (g := 21) (t := 131) (b' := ((t48 && (!((t24 == 0) == t52))) || (t54 && (t24 != a4)))) rfl rfl (hs.g 5)).trans (gd_f hb)) (fun hb => ?_) ?_
     ·
      skip
      refine za2 (.bool ((a3.toList == [63]) && (t24 != 0))) Grows.refl rfl (fun a w hr hs => zal (g := 21) (t := 131) rfl rfl ((show a.tmps[131]?.getD undef = .bool ((t48 && (!((t24 == 0) == t52))) || (t54 && (t24 != a4))) from hs.g 5).trans (congrArg Value.bool (not_t hb)))) ?_
      ·
       intro a w' hr hs
       have h134 : a.tmps[134]?.getD undef = .bool (a3.toList == [63]) := (hs.g 2).1 hb
       rcases Bool.eq_false_or_eq_true (a3.toList == [63]) with hq | hq
       ·
        rw [hq] at h134
        have h136 : a.tmps[136]?.getD undef = .bool (t24 != 0) := (hs.g 0).1 (by rw [hb, hq]; rfl)
        rw [show ((a3.toList == [63]) && (t24 != 0)) = (t24 != 0) by rw [hq]; first | rfl | simp]
        go_simp
       ·
        rw [hq] at h134
        rw [show ((a3.toList == [63]) && (t24 != 0)) = false by rw [hq]; first | rfl | simp]
        go_simp
     refine rgv (.bool (((t48 && (!((t24 == 0) == t52))) || (t54 && (t24 != a4))) || ((a3.toList == [63]) && (t24 != 0)))) ?_ ?_
     ·
      intro a w' hr hs
      have h131 := hs.gv 6 rfl rfl
      rcases Bool.eq_false_or_eq_true ((t48 && (!((t24 == 0) == t52))) || (t54 && (t24 != a4))) with hq | hq
      ·
       rw [hq] at h131
       rw [show (((t48 && (!((t24 == 0) == t52))) || (t54 && (t24 != a4))) || ((a3.toList == [63]) && (t24 != 0))) = true by rw [hq]; first | rfl | simp]
       go_simp
      ·
       rw [hq] at h131
       have h137 : a.tmps[137]?.getD undef = .bool ((a3.toList == [63]) && (t24 != 0)) := (hs.g 0).1 (by rw [hq]; rfl)
       rw [show (((t48 && (!((t24 == 0) == t52))) || (t54 && (t24 != a4))) || ((a3.toList == [63]) && (t24 != 0))) = ((a3.toList == [63]) && (t24 != 0)) by rw [hq]; first | rfl | simp]
       go_simp
     intro vs w96_ hr hE
     have e28 : vs 28 = .bool (((t48 && (!((t24 == 0) == t52))) || (t54 && (t24 != a4))) || ((a3.toList == [63]) && (t24 != 0))) := hE _ (zbp 0 rfl)
     have hg : Grows w94_ w96_ := hr
     clear hE hr
     rw [show List.range 29 = [0, 1, 2, 3, 4, 5, 6, 7, 8, 9, 10, 11, 12, 13, 14, 15, 16, 17, 18, 19, 20, 21, 22, 23, 24, 25, 26, 27, 28] from rfl]
     simp only [ps, ga, pa, e28]
     clear e28
     have hT : Grows w96_ w96_ := Grows.refl _
     replace hg : Grows w94_ w96_ := hg.trans hT
     clear hT
     refine zaU ?_
     simp only [Exit.then]
     replace HCu79 := cb HCu79 hg
     replace HCu84 := cb HCu84 hg
     replace HRu84 := rb HRu84 hg
     replace HCu89 := cb HCu89 hg
     replace HRu89 := rb HRu89 hg
     replace HCu91 := cb HCu91 hg
     replace HRu91 := rb HRu91 hg
     replace HCu92 := cb HCu92 hg
     replace HRu92 := rb HRu92 hg
     replace HCu93 := cb HCu93 hg
     replace HRu93 := rb HRu93 hg
     replace HXb1 := ab HXb1 hg
     replace HXb26 := ab HXb26 hg
     replace HXb37 := ab HXb37 hg
     replace HB := hbm HB hg
     clear hg
     replace HC0 := cb PHC0 HB.out
     replace HC1_4 := cb PHC1_4 HB.out
     by_cases q97 : (((t48 && (!((t24 == 0) == t52))) || (t54 && (t24 != a4))) || ((a3.toList == [63]) && (t24 != 0))) = true
     ·
      rw [if_pos q97] at h
      cases h
     ·
      rw [if_neg q97] at h
      have q97a : (((t48 && (!((t24 == 0) == t52))) || (t54 && (t24 != a4))) || ((a3.toList == [63]) && (t24 != 0))) = false := by simpa only [Bool.not_eq_true] using q97
      clear q97
      refine wp_cond (t := (((t48 && (!((t24 == 0) == t52))) || (t54 && (t24 != a4))) || ((a3.toList == [63]) && (t24 != 0)))) (by simp [Act.eval]) ?_
      rw [if_neg (by rw [q97a]; exact Bool.false_ne_true)]
      refine wp_skip ?_
      simp only [Exit.then]
      refine wp_seq ?_
      refine wp_seq ?_
      refine rgt (N := 187) 2 ?_
      rw [show List.range 2 = [0, 1] from rfl]
      refine rgv (.int .i64 t24) ?_ ?_
      ·
       intro a w' hr hs
       have h15 := hs.ov 15 (.int .i64 t24)
       go_simp
      refine rgv (.bool (t24 != 0)) ?_ ?_
      ·
       intro a w' hr hs
       have h139 := hs.gv 0 rfl rfl
       go_simp
      intro vs w98_ hr hE
      have e1 : vs 1 = .bool (t24 != 0) := hE _ (zbp 0 rfl)
      have hg : Grows w96_ w98_ := hr
      clear hE hr
      rw [show List.range 2 = [0, 1] from rfl]
      simp only [ps, ga, pa, e1]
      clear e1
      have hT : Grows w98_ w98_ := Grows.refl _
      replace hg : Grows w96_ w98_ := hg.trans hT
      clear hT
      refine zaU ?_
      simp only [Exit.then]
      replace HCu79 := cb HCu79 hg
      replace HCu84 := cb HCu84 hg
      replace HRu84 := rb HRu84 hg
      replace HCu89 := cb HCu89 hg
      replace HRu89 := rb HRu89 hg
      replace HCu91 := cb HCu91 hg
      replace HRu91 := rb HRu91 hg
      replace HCu92 := cb HCu92 hg
      replace HRu92 := rb HRu92 hg
      replace HCu93 := cb HCu93 hg
      replace HRu93 := rb HRu93 hg
      replace HXb1 := ab HXb1 hg
      replace HXb26 := ab HXb26 hg
      replace HXb37 := ab HXb37 hg
      replace HB := hbm HB hg
      clear hg
      replace HC0 := cb PHC0 HB.out
      replace HC1_4 := cb PHC1_4 HB.out
      by_cases q99 : (t24 != 0) = true
      ·
       rw [if_pos q99] at h
       have q99a : (t24 != 0) = true := by simpa only [Bool.not_eq_true] using q99
       clear q99
       refine wp_cond (t := (t24 != 0)) (by simp [Act.eval]) ?_
       rw [if_pos q99a]
       refine wp_seq ?_
       replace h := Option.bind_eq_some_iff.1 h
       obtain ⟨t56, F57, h⟩ := h
       try dsimp only at h
       replace F57 := zaa.mk F57
       refine rgt (N := 187) 12 ?_
       rw [show List.range 12 = [0, 1, 2, 3, 4, 5, 6, 7, 8, 9, 10, 11] from rfl]
       refine rgv (.bool t2) ?_ ?_
       ·
        intro a w' hr hs
        have h13 := hs.ov 13 (.bool t2)
        go_simp
       refine rgv (.bool t2) ?_ ?_
       ·
        intro a w' hr hs
        have h141 := hs.gv 0 rfl rfl
        go_simp
       refine zaL t2 (fun v _ => v = .int .i64 t24) (fun _ _ _ _ h => h) Grows.refl rfl (fun hb a w hr hs => (zaG (g := 1) (t := 142) (b' := t2) rfl rfl (hs.g 0)).trans (gd_t hb)) (fun hb => ?_) ?_
       ·
        skip
        refine za2 (.int .i64 t24) Grows.refl rfl (fun a w hr hs => zal (g := 1) (t := 142) rfl rfl ((show a.tmps[142]?.getD undef = .bool t2 from hs.g 0).trans (congrArg Value.bool hb))) ?_
        ·
         intro a w' hr hs
         have h15 := hs.ov 15 (.int .i64 t24)
         go_simp
       refine zaL t2 (fun v _ => v = .int .i64 a4) (fun _ _ _ _ h => h) Grows.refl rfl (fun hb a w hr hs => (zaG (g := 1) (t := 142) (b' := t2) rfl rfl (hs.g 1)).trans (gd_t hb)) (fun hb => ?_) ?_
       ·
        skip
        refine za2 (.int .i64 a4) Grows.refl rfl (fun a w hr hs => zal (g := 1) (t := 142) rfl rfl ((show a.tmps[142]?.getD undef = .bool t2 from hs.g 1).trans (congrArg Value.bool hb))) ?_
        ·
         intro a w' hr hs
         have h4 := hs.ov 4 (.int .i64 a4)
         go_simp
       refine zaL t2 (fun v _ => v = .bool (t24 == a4)) (fun _ _ _ _ h => h) Grows.refl rfl (fun hb a w hr hs => (zaG (g := 1) (t := 142) (b' := t2) rfl rfl (hs.g 2)).trans (gd_t hb)) (fun hb => ?_) ?_
       ·
        skip
        refine za2 (.bool (t24 == a4)) Grows.refl rfl (fun a w hr hs => zal (g := 1) (t := 142) rfl rfl ((show a.tmps[142]?.getD undef = .bool t2 from hs.g 2).trans (congrArg Value.bool hb))) ?_
        ·
         intro a w' hr hs
         have h143 : a.tmps[143]?.getD undef = .int .i64 t24 := (hs.g 1).1 hb
         have h144 : a.tmps[144]?.getD undef = .int .i64 a4 := (hs.g 0).1 hb
         go_simp
       refine rgv (.bool (t2 && (t24 == a4))) ?_ ?_
       ·
        intro a w' hr hs
        have h142 := hs.gv 3 rfl rfl
        rcases Bool.eq_false_or_eq_true t2 with hq | hq
        ·
         rw [hq] at h142
         have h145 : a.tmps[145]?.getD undef = .bool (t24 == a4) := (hs.g 0).1 hq
         rw [show (t2 && (t24 == a4)) = (t24 == a4) by rw [hq]; first | rfl | simp]
         go_simp
        ·
         rw [hq] at h142
         rw [show (t2 && (t24 == a4)) = false by rw [hq]; first | rfl | simp]
         go_simp
       refine rgv (.bool (t2 && (t24 == a4))) ?_ ?_
       ·
        intro a w' hr hs
        have h146 := hs.gv 0 rfl rfl
        go_simp
       refine zaL (t2 && (t24 == a4)) (fun v _ => v = .agg #[.int .i64 t19, .int .i64 t20, .int .u64 t21, .string t22, .slice Au84 t23.length cu84]) (fun _ _ _ _ h => h) Grows.refl rfl (fun hb a w hr hs => (zaG (g := 6) (t := 147) (b' := (t2 && (t24 == a4))) rfl rfl (hs.g 0)).trans (gd_t hb)) (fun hb => ?_) ?_
       ·
        skip
        refine za2 (.agg #[.int .i64 t19, .int .i64 t20, .int .u64 t21, .string t22, .slice Au84 t23.length cu84]) Grows.refl rfl (fun a w hr hs => zal (g := 6) (t := 147) rfl rfl ((show a.tmps[147]?.getD undef = .bool (t2 && (t24 == a4)) from hs.g 0).trans (congrArg Value.bool hb))) ?_
        ·
         intro a w' hr hs
         have h14 := hs.ov 14 (.pointer (some ⟨b26_, 0, none⟩))
         have x := hr.at HXb26.out
         have x0 := zad x 0
         have x1 := zad x 1
         have x2 := zad x 2
         have x3 := zad x 3
         have x4 := zad x 4
         simp only [ga] at x0 x1 x2 x3 x4
         go_simp
       refine zaL (t2 && (t24 == a4)) (fun v _ => v = .agg #[.int .i64 0, .int .i64 0, .int .u64 0, .string (⟨#[]⟩ : ByteArray), .slice none 0 0]) (fun _ _ _ _ h => h) Grows.refl rfl (fun hb a w hr hs => (zaG (g := 6) (t := 147) (b' := (t2 && (t24 == a4))) rfl rfl (hs.g 1)).trans (gd_t hb)) (fun hb => ?_) ?_
       ·
        skip
        refine za2 (.agg #[.int .i64 0, .int .i64 0, .int .u64 0, .string (⟨#[]⟩ : ByteArray), .slice none 0 0]) Grows.refl rfl (fun a w hr hs => zal (g := 6) (t := 147) rfl rfl ((show a.tmps[147]?.getD undef = .bool (t2 && (t24 == a4)) from hs.g 1).trans (congrArg Value.bool hb))) ?_
        ·
         intro a w' hr hs
         go_simp
       refine zaL (t2 && (t24 == a4)) (fun v _ => v = .bool t56) (fun _ _ _ _ h => h) Grows.refl rfl (fun hb a w hr hs => (zaG (g := 6) (t := 147) (b' := (t2 && (t24 == a4))) rfl rfl (hs.g 2)).trans (gd_t hb)) (fun hb => ?_) ?_
       ·
        skip
        refine zcJ (fun v _ => v = .bool t56) rfl rfl Try.func14 k9 rfl (fun a w hr hs => zal (g := 6) (t := 147) rfl rfl ((show a.tmps[147]?.getD undef = .bool (t2 && (t24 == a4)) from hs.g 2).trans (congrArg Value.bool hb))) ?_
        ·
         intro a w' hr hs
         have h148 : a.tmps[148]?.getD undef = .agg #[.int .i64 t19, .int .i64 t20, .int .u64 t21, .string t22, .slice Au84 t23.length cu84] := (hs.g 1).1 hb
         have h149 : a.tmps[149]?.getD undef = .agg #[.int .i64 0, .int .i64 0, .int .u64 0, .string (⟨#[]⟩ : ByteArray), .slice none 0 0] := (hs.g 0).1 hb
         rw [show (#[Operand.tmp 148, Operand.tmp 149] : Array Operand).map a.eval = #[.agg #[.int .i64 t19, .int .i64 t20, .int .u64 t21, .string t22, .slice Au84 t23.length cu84], .agg #[.int .i64 0, .int .i64 0, .int .u64 0, .string (⟨#[]⟩ : ByteArray), .slice none 0 0]] by simp [Act.eval, h148, h149]]
         refine (zan.calls k t19 t20 t21 t22 Au84 cu84 t23 0 0 0 (⟨#[]⟩ : ByteArray) none 0 ([] : List (S35)) t56 _ (Kd.zat HCu84.out hr) hcu84 (Kd.C_nil _ _) (Nat.le_refl _) ((if_pos hb).symm.trans F57.out)).mono ?_
         rintro e w3 ⟨rfl, hb⟩
         exact ⟨_, rfl, hb, rfl⟩
       refine rgv (.bool ((t2 && (t24 == a4)) && t56)) ?_ ?_
       ·
        intro a w' hr hs
        have h147 := hs.gv 3 rfl rfl
        rcases Bool.eq_false_or_eq_true (t2 && (t24 == a4)) with hq | hq
        ·
         rw [hq] at h147
         have h150 : a.tmps[150]?.getD undef = .bool t56 := (hs.g 0).1 hq
         rw [show ((t2 && (t24 == a4)) && t56) = t56 by rw [hq]; first | rfl | simp]
         go_simp
        ·
         rw [hq] at h147
         rw [show ((t2 && (t24 == a4)) && t56) = false by rw [hq]; first | rfl | simp]
         go_simp
       refine rgv (.bool ((t2 && (t24 == a4)) && t56)) ?_ ?_
       ·
        intro a w' hr hs
        have h151 := hs.gv 0 rfl rfl
        go_simp
       intro vs w100_ hr hE
       have e11 : vs 11 = .bool ((t2 && (t24 == a4)) && t56) := hE _ (zbp 0 rfl)
       have hg : Grows w98_ w100_ := hr
       clear hE hr
       rw [show List.range 12 = [0, 1, 2, 3, 4, 5, 6, 7, 8, 9, 10, 11] from rfl]
       simp only [ps, ga, pa, e11]
       clear e11
       have hT : Grows w100_ w100_ := Grows.refl _
       replace hg : Grows w98_ w100_ := hg.trans hT
       clear hT
       refine zaU ?_
       simp only [Exit.then]
       replace HCu79 := cb HCu79 hg
       replace HCu84 := cb HCu84 hg
       replace HRu84 := rb HRu84 hg
       replace HCu89 := cb HCu89 hg
       replace HRu89 := rb HRu89 hg
       replace HCu91 := cb HCu91 hg
       replace HRu91 := rb HRu91 hg
       replace HCu92 := cb HCu92 hg
       replace HRu92 := rb HRu92 hg
       replace HCu93 := cb HCu93 hg
       replace HRu93 := rb HRu93 hg
       replace HXb1 := ab HXb1 hg
       replace HXb26 := ab HXb26 hg
       replace HXb37 := ab HXb37 hg
       replace HB := hbm HB hg
       clear hg
       replace HC0 := cb PHC0 HB.out
       replace HC1_4 := cb PHC1_4 HB.out
       obtain rfl := Option.some.inj h
       go_wp2_with fail
       go_ret
       exact ⟨rfl, HB.out⟩
      ·
       rw [if_neg q99] at h
       have q99a : (t24 != 0) = false := by simpa only [Bool.not_eq_true] using q99
       clear q99
       refine wp_cond (t := (t24 != 0)) (by simp [Act.eval]) ?_
       rw [if_neg (by rw [q99a]; exact Bool.false_ne_true)]
       refine wp_skip ?_
       simp only [Exit.then]
       refine wp_seq ?_
       replace h := Option.bind_eq_some_iff.1 h
       obtain ⟨⟨t58, t59, t60, t61, t62, t63⟩, F64, h⟩ := h
       try dsimp only at h
       replace F64 := zaa.mk F64
       refine rgt (N := 187) 9 ?_
       rw [show List.range 9 = [0, 1, 2, 3, 4, 5, 6, 7, 8] from rfl]
       refine rgv (.slice A0 l0.length c0) ?_ ?_
       ·
        intro a w' hr hs
        have h0 := hs.ov 0 (.slice A0 l0.length c0)
        go_simp
       refine rgv (.agg #[.int .i64 t19, .int .i64 t20, .int .u64 t21, .string t22, .slice Au84 t23.length cu84]) ?_ ?_
       ·
        intro a w' hr hs
        have h14 := hs.ov 14 (.pointer (some ⟨b26_, 0, none⟩))
        have x := hr.at HXb26.out
        have x0 := zad x 0
        have x1 := zad x 1
        have x2 := zad x 2
        have x3 := zad x 3
        have x4 := zad x 4
        simp only [ga] at x0 x1 x2 x3 x4
        go_simp
       refine rgv (.string a3) ?_ ?_
       ·
        intro a w' hr hs
        have h3 := hs.ov 3 (.string a3)
        go_simp
       refine rgv (.int .i64 a4) ?_ ?_
       ·
        intro a w' hr hs
        have h4 := hs.ov 4 (.int .i64 a4)
        go_simp
       refine rgv (.bool a5) ?_ ?_
       ·
        intro a w' hr hs
        have h5 := hs.ov 5 (.bool a5)
        go_simp
       refine rgc (OneR k35 35 t62 (vT t58 t59 t60 t61 t63)) Try.func30 ?_ ?_
       ·
        intro a w' hr hs
        have h153 := hs.gv 4 rfl rfl
        have h154 := hs.gv 3 rfl rfl
        have h155 := hs.gv 2 rfl rfl
        have h156 := hs.gv 1 rfl rfl
        have h157 := hs.gv 0 rfl rfl
        rw [show (#[Operand.tmp 153, Operand.tmp 154, Operand.tmp 155, Operand.tmp 156, Operand.tmp 157] : Array Operand).map a.eval = #[.slice A0 l0.length c0, .agg #[.int .i64 t19, .int .i64 t20, .int .u64 t21, .string t22, .slice Au84 t23.length cu84], .string a3, .int .i64 a4, .bool a5] by simp [Act.eval, h153, h154, h155, h156, h157]]
        refine (zaF.calls k A0 c0 l0 t19 t20 t21 t22 Au84 cu84 t23 a3 a4 a5 t58 t59 t60 t61 t62 t63 _ (Kd.zat HC0.out hr) hc0 (Kd.zat HCu84.out hr) hcu84 F64.out).mono ?_
        rintro e w3 ⟨v, rfl, hR, hb⟩
        exact ⟨_, rfl, hb, OneR.of hR⟩
       refine rgk (OneR k35 35 t62 (vT t58 t59 t60 t61 t63)) ?_ ?_
       ·
        intro a w' hr hs
        obtain ⟨A158, c158, h158, hc158, hC158, hR158⟩ := hs.rd 0 rfl rfl
        simp only [vT] at h158
        exact ⟨.tuple #[.agg #[.int .i64 t58, .int .i64 t59, .int .u64 t60, .string t61, .slice A158 t62.length c158], .int .i64 t63], by go_simp, _, rfl, hR158⟩
       refine rgk (OneR k35 35 t62 (vA t58 t59 t60 t61)) ?_ ?_
       ·
        intro a w' hr hs
        obtain ⟨A152, c152, h152, hc152, hC152, hR152⟩ := hs.rd 0 rfl rfl
        simp only [vT] at h152
        exact ⟨.agg #[.int .i64 t58, .int .i64 t59, .int .u64 t60, .string t61, .slice A152 t62.length c152], by go_simp, _, rfl, hR152⟩
       refine rgv (.int .i64 t63) ?_ ?_
       ·
        intro a w' hr hs
        obtain ⟨A152, c152, h152, hc152, hC152, hR152⟩ := hs.rd 1 rfl rfl
        simp only [vT] at h152
        go_simp
       intro vs w101_ hr hE
       have g_ : OneR k35 35 t62 (vA t58 t59 t60 t61) (vs 7) w101_ := hE _ (zbp 1 rfl)
       obtain ⟨Au102, cu102, e7, hcu102, hCu102, hRu102⟩ := g_.reads
       clear g_
       replace e7 : vs 7 = .agg #[.int .i64 t58, .int .i64 t59, .int .u64 t60, .string t61, .slice Au102 t62.length cu102] := e7
       have HCu102 := zaa.mk hCu102
       clear hCu102
       have HRu102 := zaa.mk hRu102
       clear hRu102
       have e8 : vs 8 = .int .i64 t63 := hE _ (zbp 0 rfl)
       have hg : Grows w98_ w101_ := hr
       clear hE hr
       rw [show List.range 9 = [0, 1, 2, 3, 4, 5, 6, 7, 8] from rfl]
       simp only [ps, ga, pa, e7, e8]
       clear e7 e8
       have hT : Grows w101_ w101_ := Grows.refl _
       obtain ⟨w101_a, hw101_a⟩ : ∃ W, W = w101_.alloc (.cells #[.int .i64 0, .int .i64 0, .int .u64 0, .string (⟨#[]⟩ : ByteArray), .slice none 0 0] 27) := ⟨_, rfl⟩
       obtain ⟨b65_, hb65_⟩ : ∃ n, n = w101_.heap.size := ⟨_, rfl⟩
       refine zbt (i := 9) (r := [10, 11]) (w' := w101_a) 20 (.pointer (some ⟨b65_, 0, none⟩)) rfl rfl (zae rfl) (by rw [hw101_a, hb65_]; go_simp) ?_
       simp only [pa]
       have HXb65 : w101_a.heap[b65_]? = some (.cells #[.int .i64 0, .int .i64 0, .int .u64 0, .string (⟨#[]⟩ : ByteArray), .slice none 0 0] 27 (0, 0)) := by rw [hw101_a, hb65_]; exact at_new _ _ rfl
       replace HXb65 := zaa.mk HXb65
       have hlb65 : w101_.heap.size ≤ b65_ := by rw [hb65_]; exact hT.size
       replace hT : Grows w101_ w101_a := by rw [hw101_a]; exact hT.trans (Grows.alloc _ _)
       clear hw101_a hb65_
       have hwb65 : w.heap.size ≤ b65_ := Nat.le_trans (Nat.le_trans HB.out.size hg.size) hlb65
       have hneb1b65 : b1_ ≠ b65_ := by have h1 := zai HXb1.out; have h2 := hg.size; omega
       have hneb26b65 : b26_ ≠ b65_ := by have h1 := zai HXb26.out; have h2 := hg.size; omega
       have hneb37b65 : b37_ ≠ b65_ := by have h1 := zai HXb37.out; have h2 := hg.size; omega
       have z0 := zad HXb65.out 0
       have f0 := free_at HXb65.out 0
       have z1 := zad HXb65.out 1
       have f1 := free_at HXb65.out 1
       have z2 := zad HXb65.out 2
       have f2 := free_at HXb65.out 2
       have z3 := zad HXb65.out 3
       have f3 := free_at HXb65.out 3
       have z4 := zad HXb65.out 4
       have f4 := free_at HXb65.out 4
       simp only [ga] at z0 z1 z2 z3 z4
       obtain ⟨w101_as, hw101_as⟩ : ∃ W, W = (((((w101_a.setCell ⟨b65_, 0, none⟩ (.int .i64 t58)).setCell ⟨b65_, 1, none⟩ (.int .i64 t59)).setCell ⟨b65_, 2, none⟩ (.int .u64 t60)).setCell ⟨b65_, 3, none⟩ (.string t61)).setCell ⟨b65_, 4, none⟩ (.slice Au102 t62.length cu102)) := ⟨_, rfl⟩
       refine zcm (i := 10) (r := [11]) (w' := w101_as) rfl rfl (zae rfl) (by rw [hw101_as]; go_simp) ?_
       clear z0 z1 z2 z3 z4 f0 f1 f2 f3 f4
       have hX_ : w101_as.heap[b65_]? = some (.cells #[.int .i64 t58, .int .i64 t59, .int .u64 t60, .string t61, .slice Au102 t62.length cu102] 27 (0, 0)) := by rw [hw101_as]; exact (zaf (zaf (zaf (zaf (zaf HXb65.out 0 (.int .i64 t58) rfl) 1 (.int .i64 t59) rfl) 2 (.int .u64 t60) rfl) 3 (.string t61) rfl) 4 (.slice Au102 t62.length cu102) rfl)
       replace HXb65 := zaa.mk hX_
       clear hX_
       replace hT : Grows w101_ w101_as := by rw [hw101_as]; exact (setB (setB (setB (setB (setB hT hlb65 (.int .i64 t58)) hlb65 (.int .i64 t59)) hlb65 (.int .u64 t60)) hlb65 (.string t61)) hlb65 (.slice Au102 t62.length cu102))
       clear hw101_as
       refine zbt (i := 11) (r := []) (w' := w101_as) 21 (.int .i64 t63) rfl rfl (zae rfl) q9 ?_
       simp only [pa]
       replace HCu102 := cb HCu102 hT
       replace HRu102 := rb HRu102 hT
       replace hg : Grows w98_ w101_as := hg.trans hT
       clear hT
       refine zaU ?_
       simp only [Exit.then]
       replace HCu79 := cb HCu79 hg
       replace HCu84 := cb HCu84 hg
       replace HRu84 := rb HRu84 hg
       replace HCu89 := cb HCu89 hg
       replace HRu89 := rb HRu89 hg
       replace HCu91 := cb HCu91 hg
       replace HRu91 := rb HRu91 hg
       replace HCu92 := cb HCu92 hg
       replace HRu92 := rb HRu92 hg
       replace HCu93 := cb HCu93 hg
       replace HRu93 := rb HRu93 hg
       replace HXb1 := ab HXb1 hg
       replace HXb26 := ab HXb26 hg
       replace HXb37 := ab HXb37 hg
       replace HB := hbm HB hg
       clear hg
       replace HC0 := cb PHC0 HB.out
       replace HC1_4 := cb PHC1_4 HB.out
       refine wp_seq ?_
       replace h := Option.bind_eq_some_iff.1 h
       obtain ⟨t66, F67, h⟩ := h
       try dsimp only at h
       replace F67 := zaa.mk F67
       replace h := Option.bind_eq_some_iff.1 h
       obtain ⟨t68, F69, h⟩ := h
       try dsimp only at h
       replace F69 := zaa.mk F69
       refine rgt (N := 187) 27 ?_
       rw [show List.range 27 = [0, 1, 2, 3, 4, 5, 6, 7, 8, 9, 10, 11, 12, 13, 14, 15, 16, 17, 18, 19, 20, 21, 22, 23, 24, 25, 26] from rfl]
       refine rgv (.bool t2) ?_ ?_
       ·
        intro a w' hr hs
        have h13 := hs.ov 13 (.bool t2)
        go_simp
       refine rgv (.bool t2) ?_ ?_
       ·
        intro a w' hr hs
        have h161 := hs.gv 0 rfl rfl
        go_simp
       refine zaL t2 (fun v _ => v = .int .i64 t63) (fun _ _ _ _ h => h) Grows.refl rfl (fun hb a w hr hs => (zaG (g := 1) (t := 162) (b' := t2) rfl rfl (hs.g 0)).trans (gd_t hb)) (fun hb => ?_) ?_
       ·
        skip
        refine za2 (.int .i64 t63) Grows.refl rfl (fun a w hr hs => zal (g := 1) (t := 162) rfl rfl ((show a.tmps[162]?.getD undef = .bool t2 from hs.g 0).trans (congrArg Value.bool hb))) ?_
        ·
         intro a w' hr hs
         have h21 := hs.ov 21 (.int .i64 t63)
         go_simp
       refine zaL t2 (fun v _ => v = .bool (t63 == 0)) (fun _ _ _ _ h => h) Grows.refl rfl (fun hb a w hr hs => (zaG (g := 1) (t := 162) (b' := t2) rfl rfl (hs.g 1)).trans (gd_t hb)) (fun hb => ?_) ?_
       ·
        skip
        refine za2 (.bool (t63 == 0)) Grows.refl rfl (fun a w hr hs => zal (g := 1) (t := 162) rfl rfl ((show a.tmps[162]?.getD undef = .bool t2 from hs.g 1).trans (congrArg Value.bool hb))) ?_
        ·
         intro a w' hr hs
         have h163 : a.tmps[163]?.getD undef = .int .i64 t63 := (hs.g 0).1 hb
         go_simp
       refine rgv (.bool (t2 && (t63 == 0))) ?_ ?_
       ·
        intro a w' hr hs
        have h162 := hs.gv 2 rfl rfl
        rcases Bool.eq_false_or_eq_true t2 with hq | hq
        ·
         rw [hq] at h162
         have h164 : a.tmps[164]?.getD undef = .bool (t63 == 0) := (hs.g 0).1 hq
         rw [show (t2 && (t63 == 0)) = (t63 == 0) by rw [hq]; first | rfl | simp]
         go_simp
        ·
         rw [hq] at h162
         rw [show (t2 && (t63 == 0)) = false by rw [hq]; first | rfl | simp]
         go_simp
       refine rgv (.bool (t2 && (t63 == 0))) ?_ ?_
       ·
        intro a w' hr hs
        have h165 := hs.gv 0 rfl rfl
        go_simp
       refine zaL (t2 && (t63 == 0)) (fun v _ => v = .pointer (some ⟨b65_, 3, none⟩)) (fun _ _ _ _ h => h) Grows.refl rfl (fun hb a w hr hs => (zaG (g := 5) (t := 166) (b' := (t2 && (t63 == 0))) rfl rfl (hs.g 0)).trans (gd_t hb)) (fun hb => ?_) ?_
       ·
        skip
        refine za2 (.pointer (some ⟨b65_, 3, none⟩)) Grows.refl rfl (fun a w hr hs => zal (g := 5) (t := 166) rfl rfl ((show a.tmps[166]?.getD undef = .bool (t2 && (t63 == 0)) from hs.g 0).trans (congrArg Value.bool hb))) ?_
        ·
         intro a w' hr hs
         have h20 := hs.ov 20 (.pointer (some ⟨b65_, 0, none⟩))
         go_simp
       refine zaL (t2 && (t63 == 0)) (fun v _ => v = .string t61) (fun _ _ _ _ h => h) Grows.refl rfl (fun hb a w hr hs => (zaG (g := 5) (t := 166) (b' := (t2 && (t63 == 0))) rfl rfl (hs.g 1)).trans (gd_t hb)) (fun hb => ?_) ?_
       ·
        skip
        refine za2 (.string t61) Grows.refl rfl (fun a w hr hs => zal (g := 5) (t := 166) rfl rfl ((show a.tmps[166]?.getD undef = .bool (t2 && (t63 == 0)) from hs.g 1).trans (congrArg Value.bool hb))) ?_
        ·
         intro a w' hr hs
         have h167 : a.tmps[167]?.getD undef = .pointer (some ⟨b65_, 3, none⟩) := (hs.g 0).1 hb
         have x := hr.at HXb65.out
         have x0 := zad x 0
         have x1 := zad x 1
         have x2 := zad x 2
         have x3 := zad x 3
         have x4 := zad x 4
         simp only [ga] at x0 x1 x2 x3 x4
         go_simp
       refine zaL (t2 && (t63 == 0)) (fun v _ => v = .pointer (some ⟨b1_, 3, none⟩)) (fun _ _ _ _ h => h) Grows.refl rfl (fun hb a w hr hs => (zaG (g := 5) (t := 166) (b' := (t2 && (t63 == 0))) rfl rfl (hs.g 2)).trans (gd_t hb)) (fun hb => ?_) ?_
       ·
        skip
        refine za2 (.pointer (some ⟨b1_, 3, none⟩)) Grows.refl rfl (fun a w hr hs => zal (g := 5) (t := 166) rfl rfl ((show a.tmps[166]?.getD undef = .bool (t2 && (t63 == 0)) from hs.g 2).trans (congrArg Value.bool hb))) ?_
        ·
         intro a w' hr hs
         have h7 := hs.ov 7 (.pointer (some ⟨b1_, 0, none⟩))
         go_simp
       refine zaL (t2 && (t63 == 0)) (fun v _ => v = .string t17) (fun _ _ _ _ h => h) Grows.refl rfl (fun hb a w hr hs => (zaG (g := 5) (t := 166) (b' := (t2 && (t63 == 0))) rfl rfl (hs.g 3)).trans (gd_t hb)) (fun hb => ?_) ?_
       ·
        skip
        refine za2 (.string t17) Grows.refl rfl (fun a w hr hs => zal (g := 5) (t := 166) rfl rfl ((show a.tmps[166]?.getD undef = .bool (t2 && (t63 == 0)) from hs.g 3).trans (congrArg Value.bool hb))) ?_
        ·
         intro a w' hr hs
         have h169 : a.tmps[169]?.getD undef = .pointer (some ⟨b1_, 3, none⟩) := (hs.g 0).1 hb
         have x := hr.at HXb1.out
         have x0 := zad x 0
         have x1 := zad x 1
         have x2 := zad x 2
         have x3 := zad x 3
         have x4 := zad x 4
         simp only [ga] at x0 x1 x2 x3 x4
         go_simp
       refine zaL (t2 && (t63 == 0)) (fun v _ => v = .bool (t61.toList == t17.toList)) (fun _ _ _ _ h => h) Grows.refl rfl (fun hb a w hr hs => (zaG (g := 5) (t := 166) (b' := (t2 && (t63 == 0))) rfl rfl (hs.g 4)).trans (gd_t hb)) (fun hb => ?_) ?_
       ·
        skip
        refine za2 (.bool (t61.toList == t17.toList)) Grows.refl rfl (fun a w hr hs => zal (g := 5) (t := 166) rfl rfl ((show a.tmps[166]?.getD undef = .bool (t2 && (t63 == 0)) from hs.g 4).trans (congrArg Value.bool hb))) ?_
        ·
         intro a w' hr hs
         have h168 : a.tmps[168]?.getD undef = .string t61 := (hs.g 2).1 hb
         have h170 : a.tmps[170]?.getD undef = .string t17 := (hs.g 0).1 hb
         go_simp
       refine rgv (.bool ((t2 && (t63 == 0)) && (t61.toList == t17.toList))) ?_ ?_
       ·
        intro a w' hr hs
        have h166 := hs.gv 5 rfl rfl
        rcases Bool.eq_false_or_eq_true (t2 && (t63 == 0)) with hq | hq
        ·
         rw [hq] at h166
         have h171 : a.tmps[171]?.getD undef = .bool (t61.toList == t17.toList) := (hs.g 0).1 hq
         rw [show ((t2 && (t63 == 0)) && (t61.toList == t17.toList)) = (t61.toList == t17.toList) by rw [hq]; first | rfl | simp]
         go_simp
        ·
         rw [hq] at h166
         rw [show ((t2 && (t63 == 0)) && (t61.toList == t17.toList)) = false by rw [hq]; first | rfl | simp]
         go_simp
       refine rgv (.bool ((t2 && (t63 == 0)) && (t61.toList == t17.toList))) ?_ ?_
       ·
        intro a w' hr hs
        have h172 := hs.gv 0 rfl rfl
        go_simp
       refine zaL ((t2 && (t63 == 0)) && (t61.toList == t17.toList)) (fun v _ => v = .pointer (some ⟨b65_, 1, none⟩)) (fun _ _ _ _ h => h) Grows.refl rfl (fun hb a w hr hs => (zaG (g := 12) (t := 173) (b' := ((t2 && (t63 == 0)) && (t61.toList == t17.toList))) rfl rfl (hs.g 0)).trans (gd_t hb)) (fun hb => ?_) ?_
       ·
        skip
        refine za2 (.pointer (some ⟨b65_, 1, none⟩)) Grows.refl rfl (fun a w hr hs => zal (g := 12) (t := 173) rfl rfl ((show a.tmps[173]?.getD undef = .bool ((t2 && (t63 == 0)) && (t61.toList == t17.toList)) from hs.g 0).trans (congrArg Value.bool hb))) ?_
        ·
         intro a w' hr hs
         have h20 := hs.ov 20 (.pointer (some ⟨b65_, 0, none⟩))
         go_simp
       refine zaL ((t2 && (t63 == 0)) && (t61.toList == t17.toList)) (fun v _ => v = .int .i64 t59) (fun _ _ _ _ h => h) Grows.refl rfl (fun hb a w hr hs => (zaG (g := 12) (t := 173) (b' := ((t2 && (t63 == 0)) && (t61.toList == t17.toList))) rfl rfl (hs.g 1)).trans (gd_t hb)) (fun hb => ?_) ?_
       ·
        skip
        refine za2 (.int .i64 t59) Grows.refl rfl (fun a w hr hs => zal (g := 12) (t := 173) rfl rfl ((show a.tmps[173]?.getD undef = .bool ((t2 && (t63 == 0)) && (t61.toList == t17.toList)) from hs.g 1).trans (congrArg Value.bool hb))) ?_
        ·
         intro a w' hr hs
         have h174 : a.tmps[174]?.getD undef = .pointer (some ⟨b65_, 1, none⟩) := (hs.g 0).1 hb
         have x := hr.at HXb65.out
         have x0 := zad x 0
         have x1 := zad x 1
         have x2 := zad x 2
         have x3 := zad x 3
         have x4 := zad x 4
         simp only [ga] at x0 x1 x2 x3 x4
         go_simp
       refine zaL ((t2 && (t63 == 0)) && (t61.toList == t17.toList)) (fun v _ => v = .pointer (some ⟨b1_, 1, none⟩)) (fun _ _ _ _ h => h) Grows.refl rfl (fun hb a w hr hs => (zaG (g := 12) (t := 173) (b' := ((t2 && (t63 == 0)) && (t61.toList == t17.toList))) rfl rfl (hs.g 2)).trans (gd_t hb)) (fun hb => ?_) ?_
       ·
        skip
        refine za2 (.pointer (some ⟨b1_, 1, none⟩)) Grows.refl rfl (fun a w hr hs => zal (g := 12) (t := 173) rfl rfl ((show a.tmps[173]?.getD undef = .bool ((t2 && (t63 == 0)) && (t61.toList == t17.toList)) from hs.g 2).trans (congrArg Value.bool hb))) ?_
        ·
         intro a w' hr hs
         have h7 := hs.ov 7 (.pointer (some ⟨b1_, 0, none⟩))
         go_simp
       refine zaL ((t2 && (t63 == 0)) && (t61.toList == t17.toList)) (fun v _ => v = .int .i64 t15) (fun _ _ _ _ h => h) Grows.refl rfl (fun hb a w hr hs => (zaG (g := 12) (t := 173) (b' := ((t2 && (t63 == 0)) && (t61.toList == t17.toList))) rfl rfl (hs.g 3)).trans (gd_t hb)) (fun hb => ?_) ?_
       ·
        skip
        refine za2 (.int .i64 t15) Grows.refl rfl (fun a w hr hs => zal (g := 12) (t := 173) rfl rfl ((show a.tmps[173]?.getD undef = .bool ((t2 && (t63 == 0)) && (t61.toList == t17.toList)) from hs.g 3).trans (congrArg Value.bool hb))) ?_
        ·
         intro a w' hr hs
         have h176 : a.tmps[176]?.getD undef = .pointer (some ⟨b1_, 1, none⟩) := (hs.g 0).1 hb
         have x := hr.at HXb1.out
         have x0 := zad x 0
         have x1 := zad x 1
         have x2 := zad x 2
         have x3 := zad x 3
         have x4 := zad x 4
         simp only [ga] at x0 x1 x2 x3 x4
         go_simp
       refine zaL ((t2 && (t63 == 0)) && (t61.toList == t17.toList)) (fun v _ => v = .bool (t59 == t15)) (fun _ _ _ _ h => h) Grows.refl rfl (fun hb a w hr hs => (zaG (g := 12) (t := 173) (b' := ((t2 && (t63 == 0)) && (t61.toList == t17.toList))) rfl rfl (hs.g 4)).trans (gd_t hb)) (fun hb => ?_) ?_
       ·
        skip
        refine za2 (.bool (t59 == t15)) Grows.refl rfl (fun a w hr hs => zal (g := 12) (t := 173) rfl rfl ((show a.tmps[173]?.getD undef = .bool ((t2 && (t63 == 0)) && (t61.toList == t17.toList)) from hs.g 4).trans (congrArg Value.bool hb))) ?_
        ·
         intro a w' hr hs
         have h175 : a.tmps[175]?.getD undef = .int .i64 t59 := (hs.g 2).1 hb
         have h177 : a.tmps[177]?.getD undef = .int .i64 t15 := (hs.g 0).1 hb
         go_simp
       refine rgv (.bool (((t2 && (t63 == 0)) && (t61.toList == t17.toList)) && (t59 == t15))) ?_ ?_
       ·
        intro a w' hr hs
        have h173 := hs.gv 5 rfl rfl
        rcases Bool.eq_false_or_eq_true ((t2 && (t63 == 0)) && (t61.toList == t17.toList)) with hq | hq
        ·
         rw [hq] at h173
         have h178 : a.tmps[178]?.getD undef = .bool (t59 == t15) := (hs.g 0).1 hq
         rw [show (((t2 && (t63 == 0)) && (t61.toList == t17.toList)) && (t59 == t15)) = (t59 == t15) by rw [hq]; first | rfl | simp]
         go_simp
        ·
         rw [hq] at h173
         rw [show (((t2 && (t63 == 0)) && (t61.toList == t17.toList)) && (t59 == t15)) = false by rw [hq]; first | rfl | simp]
         go_simp
       refine rgv (.bool (((t2 && (t63 == 0)) && (t61.toList == t17.toList)) && (t59 == t15))) ?_ ?_
       ·
        intro a w' hr hs
        have h179 := hs.gv 0 rfl rfl
        go_simp
       refine zaL (((t2 && (t63 == 0)) && (t61.toList == t17.toList)) && (t59 == t15)) (fun v _ => v = .slice A0 l0.length c0) (fun _ _ _ _ h => h) Grows.refl rfl (fun hb a w hr hs => (zaG (g := 19) (t := 180) (b' := (((t2 && (t63 == 0)) && (t61.toList == t17.toList)) && (t59 == t15))) rfl rfl (hs.g 0)).trans (gd_t hb)) (fun hb => ?_) ?_
       ·
        skip
        refine za2 (.slice A0 l0.length c0) Grows.refl rfl (fun a w hr hs => zal (g := 19) (t := 180) rfl rfl ((show a.tmps[180]?.getD undef = .bool (((t2 && (t63 == 0)) && (t61.toList == t17.toList)) && (t59 == t15)) from hs.g 0).trans (congrArg Value.bool hb))) ?_
        ·
         intro a w' hr hs
         have h0 := hs.ov 0 (.slice A0 l0.length c0)
         go_simp
       refine zaL (((t2 && (t63 == 0)) && (t61.toList == t17.toList)) && (t59 == t15)) (fun v _ => v = .agg #[.int .i64 t58, .int .i64 t59, .int .u64 t60, .string t61, .slice Au102 t62.length cu102]) (fun _ _ _ _ h => h) Grows.refl rfl (fun hb a w hr hs => (zaG (g := 19) (t := 180) (b' := (((t2 && (t63 == 0)) && (t61.toList == t17.toList)) && (t59 == t15))) rfl rfl (hs.g 1)).trans (gd_t hb)) (fun hb => ?_) ?_
       ·
        skip
        refine za2 (.agg #[.int .i64 t58, .int .i64 t59, .int .u64 t60, .string t61, .slice Au102 t62.length cu102]) Grows.refl rfl (fun a w hr hs => zal (g := 19) (t := 180) rfl rfl ((show a.tmps[180]?.getD undef = .bool (((t2 && (t63 == 0)) && (t61.toList == t17.toList)) && (t59 == t15)) from hs.g 1).trans (congrArg Value.bool hb))) ?_
        ·
         intro a w' hr hs
         have h20 := hs.ov 20 (.pointer (some ⟨b65_, 0, none⟩))
         have x := hr.at HXb65.out
         have x0 := zad x 0
         have x1 := zad x 1
         have x2 := zad x 2
         have x3 := zad x 3
         have x4 := zad x 4
         simp only [ga] at x0 x1 x2 x3 x4
         go_simp
       refine zaL (((t2 && (t63 == 0)) && (t61.toList == t17.toList)) && (t59 == t15)) (OneR k33 33 t66 (fun u => u)) OneR.grows Grows.refl rfl (fun hb a w hr hs => (zaG (g := 19) (t := 180) (b' := (((t2 && (t63 == 0)) && (t61.toList == t17.toList)) && (t59 == t15))) rfl rfl (hs.g 2)).trans (gd_t hb)) (fun hb => ?_) ?_
       ·
        skip
        refine zcJ (OneR k33 33 t66 (fun u => u)) rfl rfl Try.func8 k9 rfl (fun a w hr hs => zal (g := 19) (t := 180) rfl rfl ((show a.tmps[180]?.getD undef = .bool (((t2 && (t63 == 0)) && (t61.toList == t17.toList)) && (t59 == t15)) from hs.g 2).trans (congrArg Value.bool hb))) ?_
        ·
         intro a w' hr hs
         have h181 : a.tmps[181]?.getD undef = .slice A0 l0.length c0 := (hs.g 1).1 hb
         have h182 : a.tmps[182]?.getD undef = .agg #[.int .i64 t58, .int .i64 t59, .int .u64 t60, .string t61, .slice Au102 t62.length cu102] := (hs.g 0).1 hb
         rw [show (#[Operand.tmp 181, Operand.tmp 182] : Array Operand).map a.eval = #[.slice A0 l0.length c0, .agg #[.int .i64 t58, .int .i64 t59, .int .u64 t60, .string t61, .slice Au102 t62.length cu102]] by simp [Act.eval, h181, h182]]
         refine (zax.calls k A0 c0 l0 t58 t59 t60 t61 Au102 cu102 t62 t66 _ (Kd.zat HC0.out hr) hc0 (Kd.zat HCu102.out hr) hcu102 ((if_pos hb).symm.trans F67.out)).mono ?_
         rintro e w3 ⟨v, rfl, hR, hb⟩
         exact ⟨_, rfl, hb, OneR.of hR⟩
       refine zaL (((t2 && (t63 == 0)) && (t61.toList == t17.toList)) && (t59 == t15)) (fun v _ => v = .slice Au93 t42.length cu93) (fun _ _ _ _ h => h) Grows.refl rfl (fun hb a w hr hs => (zaG (g := 19) (t := 180) (b' := (((t2 && (t63 == 0)) && (t61.toList == t17.toList)) && (t59 == t15))) rfl rfl (hs.g 3)).trans (gd_t hb)) (fun hb => ?_) ?_
       ·
        skip
        refine za2 (.slice Au93 t42.length cu93) Grows.refl rfl (fun a w hr hs => zal (g := 19) (t := 180) rfl rfl ((show a.tmps[180]?.getD undef = .bool (((t2 && (t63 == 0)) && (t61.toList == t17.toList)) && (t59 == t15)) from hs.g 3).trans (congrArg Value.bool hb))) ?_
        ·
         intro a w' hr hs
         have h19 := hs.ov 19 (.slice Au93 t42.length cu93)
         go_simp
       refine zaL (((t2 && (t63 == 0)) && (t61.toList == t17.toList)) && (t59 == t15)) (fun v _ => v = .bool t68) (fun _ _ _ _ h => h) Grows.refl rfl (fun hb a w hr hs => (zaG (g := 19) (t := 180) (b' := (((t2 && (t63 == 0)) && (t61.toList == t17.toList)) && (t59 == t15))) rfl rfl (hs.g 4)).trans (gd_t hb)) (fun hb => ?_) ?_
       ·
        skip
        refine zcJ (fun v _ => v = .bool t68) rfl rfl Try.func7 k9 rfl (fun a w hr hs => zal (g := 19) (t := 180) rfl rfl ((show a.tmps[180]?.getD undef = .bool (((t2 && (t63 == 0)) && (t61.toList == t17.toList)) && (t59 == t15)) from hs.g 4).trans (congrArg Value.bool hb))) ?_
        ·
         intro a w' hr hs
         have g183 : OneR k33 33 t66 (fun u => u) (a.tmps[183]?.getD undef) w' := (hs.g 1).1 hb
         obtain ⟨A183, c183, h183, hc183, hC183, hR183⟩ := g183.reads
         replace h183 : a.tmps[183]?.getD undef = .slice A183 t66.length c183 := h183
         have h184 : a.tmps[184]?.getD undef = .slice Au93 t42.length cu93 := (hs.g 0).1 hb
         rw [show (#[Operand.tmp 183, Operand.tmp 184] : Array Operand).map a.eval = #[.slice A183 t66.length c183, .slice Au93 t42.length cu93] by simp [Act.eval, h183, h184]]
         refine (zaz.calls k A183 c183 t66 Au93 cu93 t42 t68 _ hC183 hc183 (Kd.zat HCu93.out hr) hcu93 ((if_pos hb).symm.trans F69.out)).mono ?_
         rintro e w3 ⟨rfl, hb⟩
         exact ⟨_, rfl, hb.below, rfl⟩
       refine rgv (.bool ((((t2 && (t63 == 0)) && (t61.toList == t17.toList)) && (t59 == t15)) && t68)) ?_ ?_
       ·
        intro a w' hr hs
        have h180 := hs.gv 5 rfl rfl
        rcases Bool.eq_false_or_eq_true (((t2 && (t63 == 0)) && (t61.toList == t17.toList)) && (t59 == t15)) with hq | hq
        ·
         rw [hq] at h180
         have h185 : a.tmps[185]?.getD undef = .bool t68 := (hs.g 0).1 hq
         rw [show ((((t2 && (t63 == 0)) && (t61.toList == t17.toList)) && (t59 == t15)) && t68) = t68 by rw [hq]; first | rfl | simp]
         go_simp
        ·
         rw [hq] at h180
         rw [show ((((t2 && (t63 == 0)) && (t61.toList == t17.toList)) && (t59 == t15)) && t68) = false by rw [hq]; first | rfl | simp]
         go_simp
       refine rgv (.bool ((((t2 && (t63 == 0)) && (t61.toList == t17.toList)) && (t59 == t15)) && t68)) ?_ ?_
       ·
        intro a w' hr hs
        have h186 := hs.gv 0 rfl rfl
        go_simp
       intro vs w103_ hr hE
       have e26 : vs 26 = .bool ((((t2 && (t63 == 0)) && (t61.toList == t17.toList)) && (t59 == t15)) && t68) := hE _ (zbp 0 rfl)
       have hg : Grows w101_as w103_ := hr
       clear hE hr
       rw [show List.range 27 = [0, 1, 2, 3, 4, 5, 6, 7, 8, 9, 10, 11, 12, 13, 14, 15, 16, 17, 18, 19, 20, 21, 22, 23, 24, 25, 26] from rfl]
       simp only [ps, ga, pa, e26]
       clear e26
       have hT : Grows w103_ w103_ := Grows.refl _
       replace hg : Grows w101_as w103_ := hg.trans hT
       clear hT
       refine zaU ?_
       simp only [Exit.then]
       replace HCu79 := cb HCu79 hg
       replace HCu84 := cb HCu84 hg
       replace HRu84 := rb HRu84 hg
       replace HCu89 := cb HCu89 hg
       replace HRu89 := rb HRu89 hg
       replace HCu91 := cb HCu91 hg
       replace HRu91 := rb HRu91 hg
       replace HCu92 := cb HCu92 hg
       replace HRu92 := rb HRu92 hg
       replace HCu93 := cb HCu93 hg
       replace HRu93 := rb HRu93 hg
       replace HCu102 := cb HCu102 hg
       replace HRu102 := rb HRu102 hg
       replace HXb1 := ab HXb1 hg
       replace HXb26 := ab HXb26 hg
       replace HXb37 := ab HXb37 hg
       replace HXb65 := ab HXb65 hg
       replace HB := hbm HB hg
       clear hg
       replace HC0 := cb PHC0 HB.out
       replace HC1_4 := cb PHC1_4 HB.out
       obtain rfl := Option.some.inj h
       go_wp2_with fail
       go_ret
       exact ⟨rfl, HB.out⟩
end Go.Proofs.Ytinkbljjpafadaa.PAll
end

section
namespace Go.Proofs.Ytinkbljjpafadaa.PAll
open Go.RowKit Go.Proofs.YtinkbljjpafadaaW.PrintWords Go.Proofs.YtinkbljjpafadaaW.PrintLast Go.Proofs.YtinkbljjpafadaaOpen
def chaperonlaw16_CoerceShrinks.Pure : Prop := ∀ (l0 : List (S64)) (x1 : S27) (a2 : ByteArray) (a3 : ByteArray) (a4 : Int) (a5 : Bool), l0.length ≤ maxLen → (∀ x ∈ l0, wf64 x) → wf27 x1 → a2.size ≤ maxLen → a3.size ≤ maxLen → (Lit.int .i64 a4).wf = true → ∃ k, chaperonlaw16_CoerceShrinks.f k l0 x1.f0 x1.f1 x1.f2 x1.f3 x1.f4 a2 a3 a4 a5 = some true
end Go.Proofs.Ytinkbljjpafadaa.PAll
end

section
namespace Go.Proofs.YtinkbljjpafadaaHChain
open Go.Proofs.YtinkbljjpafadaaRF Go.Proofs.YtinkbljjpafadaaMp
section
variable {A : Type}
def KeptF (x : Nat → A) (S : Nat → Prop) (i : Nat) : Prop := ∃ j, j ≤ i ∧ S j ∧ (∀ k, S k → k < j → x k ≠ x j) ∧ ∀ k, S k → j ≤ k → k < i → x k ≠ x i
def KeptB (x : Nat → A) (S : Nat → Prop) (i : Nat) : Prop := ∃ j, i ≤ j ∧ S j ∧ (∀ k, S k → j < k → x k ≠ x j) ∧ ∀ k, S k → i < k → k ≤ j → x k ≠ x i
def Kept (x : Nat → A) (S : Nat → Prop) (i : Nat) : Prop := S i ∧ (KeptF x S i ∨ KeptB x S i)
theorem least {p : Nat → Prop} {n : Nat} (h : p n) : ∃ m, m ≤ n ∧ p m ∧ ∀ k, k < m → ¬ p k := by
 induction n using Nat.strongRecOn with
 | _ n ih =>
  by_cases hx : ∃ k, k < n ∧ p k
  ·
   obtain ⟨k, hk, hp⟩ := hx
   obtain ⟨m, h1, h2, h3⟩ := ih k hk hp
   exact ⟨m, by omega, h2, h3⟩
  ·
   exact ⟨n, Nat.le_refl _, h, fun k hk hp => hx ⟨k, hk, hp⟩⟩
theorem zhX {x : Nat → A} {S : Nat → Prop} {j : Nat} (hj : S j) (h : ∀ k, S k → k < j → x k ≠ x j) : Kept x S j :=
 ⟨hj, .inl ⟨j, Nat.le_refl _, hj, h, fun k _ h1 h2 => absurd h1 o9⟩⟩
end
section
variable {A B : Type}
open Classical in
noncomputable def norm (f : B → A) (l : List B) : List B := ((List.range l.length).filter fun i => decide (Kept (fun k => (l[k]?).map f) (· < l.length) i)).filterMap (l[·]?)
structure Lists (P : List Nat) (T : Nat → Prop) : Prop where
 sorted : P.Pairwise (· < ·)
 mem : ∀ i, i ∈ P ↔ T i
theorem Lists.filter {P : List Nat} {T : Nat → Prop} (h : Lists P T) (q : Nat → Bool) : Lists (P.filter q) fun i => T i ∧ q i = true :=
 ⟨h.sorted.filter q, fun i => by rw [List.mem_filter, h.mem]⟩
theorem Lists.range (n : Nat) : Lists (List.range n) (· < n) := ⟨List.pairwise_lt_range, fun i => List.mem_range⟩
def pick (l : List B) (P : List Nat) : List B := P.filterMap (l[·]?)
theorem zhc {l : List B} : ∀ {P : List Nat}, (∀ i ∈ P, i < l.length) → (pick l P).length = P.length
 | [], _ => rfl
 | i :: r, h => by
  have hi := h i List.mem_cons_self
  have ih := zhc (l := l) (P := r) fun j hj => h j (List.mem_cons_of_mem _ hj)
  unfold pick at ih ⊢
  rw [List.filterMap_cons_some (List.getElem?_eq_getElem hi)]
  simp [ih]
open Classical in
theorem zgs (f : B → A) (l : List B) : norm f l = pick l ((List.range l.length).filter fun i => decide (Kept (fun k => (l[k]?).map f) (· < l.length) i)) := rfl
end
end Go.Proofs.YtinkbljjpafadaaHChain
end

section
namespace Go.Proofs.YtinkbljjpafadaaHChain
open Go.Proofs.YtinkbljjpafadaaW.PrintWords Go.Proofs.YtinkbljjpafadaaW.PrintLast Go.Proofs.YtinkbljjpafadaaRF Go.Proofs.YtinkbljjpafadaaMp
theorem ziY {a b : Letter} : keq a b = true ↔ a = b := by
 constructor
 ·
  intro h
  obtain ⟨a1, a2⟩ := a
  obtain ⟨b1, b2⟩ := b
  simp only [keq, Bool.and_eq_true, beq_iff_eq] at h
  obtain ⟨rfl, h2⟩ := h
  obtain rfl := toList_inj h2
  rfl
 ·
  rintro rfl
  simp [keq]
theorem zc4 {k : Letter} : ∀ {L : Ents} {n : Nat}, zbs keq k L n = none ↔ ∀ e ∈ L, k ≠ e.1
 | [], n => by simp [zbs]
 | e :: r, n => by
  rw [zbs]
  by_cases h : keq k e.1 = true
  ·
   rw [if_pos h]
   exact iff_of_false s9 fun hh => hh e List.mem_cons_self (ziY.1 h)
  ·
   rw [if_neg h, zc4]
   constructor
   ·
    intro hh x hx
    rcases List.mem_cons.1 hx with rfl | hx
    ·
     exact fun e => h (ziY.2 e)
    ·
     exact hh x hx
   ·
    exact fun hh x hx => hh x (List.mem_cons_of_mem _ hx)
theorem zil (ls : Nat → Lay) (is : List Int) (x : Int) : fsts ls (is ++ [x]) = fstep ls (fsts ls is) x := by simp [fsts, List.foldl_append]
theorem zgd (ls : Nat → Lay) (is : List Int) : (∀ e ∈ fsts ls is, e.1 = lt ls e.2.1) ∧ (∀ q ∈ is, ∃ e ∈ fsts ls is, e.1 = lt ls q) ∧
  ∀ p, (∃ e ∈ fsts ls is, e.2.1 = p) ↔ ∃ t, ∃ ht : t < is.length, p = is[t] ∧ ∀ s, (hs : s < t) → lt ls is[s] ≠ lt ls is[t] := by
 obtain ⟨n, hn⟩ : ∃ n, is.length = n := ⟨_, rfl⟩
 induction n generalizing is with
 | zero =>
  obtain rfl := List.eq_nil_of_length_eq_zero hn
  exact ⟨fun e he => by simp [fsts] at he, fun q hq => by simp at hq, fun p => by simp [fsts]⟩
 | succ n ih =>
  obtain ⟨r, x, rfl⟩ : ∃ r x, is = r ++ [x] := ⟨is.dropLast, is.getLast (by intro h; simp [h] at hn), (List.dropLast_concat_getLast _).symm⟩
  have hr : r.length = n := by simpa using hn
  obtain ⟨h1, h2, h3⟩ := ih r hr
  rw [zil]
  have hget : ∀ t (ht : t < r.length), (r ++ [x])[t]'(by simp; omega) = r[t] := fun t ht => List.getElem_append_left ht
  have hlast : (r ++ [x])[r.length]'s9 = x := by simp
  unfold fstep
  cases hf : zbs keq (lt ls x) (fsts ls r) 0 with
  | some v =>
   simp only
   have hex : ∃ e ∈ fsts ls r, e.1 = lt ls x := by
    refine Classical.byContradiction fun hno => ?_
    have : zbs keq (lt ls x) (fsts ls r) 0 = none := zc4.2 fun e he h => hno ⟨e, he, h.symm⟩
    rw [this] at hf; cases hf
   refine ⟨h1, fun q hq => ?_, fun p => ?_⟩
   ·
    rcases List.mem_append.1 hq with hq | hq
    ·
     exact h2 q hq
    ·
     rw [List.mem_singleton.1 hq]; exact hex
   ·
    rw [h3 p]
    constructor
    ·
     rintro ⟨t, ht, rfl, h4⟩
     refine ⟨t, by simp; omega, (hget t ht).symm, fun s hs => ?_⟩
     rw [hget s o9, hget t ht]; exact h4 s hs
    ·
     rintro ⟨t, ht, rfl, h4⟩
     rw [List.length_append, List.length_singleton] at ht
     rcases Nat.lt_or_ge t r.length with h5 | h5
     ·
      refine ⟨t, h5, hget t h5, fun s hs => ?_⟩
      have := h4 s hs
      rwa [hget s o9, hget t h5] at this
     ·
      obtain rfl : t = r.length := by omega
      obtain ⟨e, he, hee⟩ := hex
      obtain ⟨s, hs, h6, _⟩ := (h3 e.2.1).1 ⟨e, he, rfl⟩
      have := h4 s hs
      rw [hget s hs, hlast, ← hee, h1 e he, h6] at this
      exact absurd rfl this
  | none =>
   simp only
   have hno := zc4.1 hf
   refine ⟨fun e he => ?_, fun q hq => ?_, fun p => ?_⟩
   ·
    rcases List.mem_append.1 he with he | he
    ·
     exact h1 e he
    ·
     rw [List.mem_singleton.1 he]
   ·
    rcases List.mem_append.1 hq with hq | hq
    ·
     obtain ⟨e, he, h⟩ := h2 q hq
     exact ⟨e, List.mem_append_left _ he, h⟩
    ·
     rw [List.mem_singleton.1 hq]
     exact ⟨_, List.mem_append_right _ (List.mem_singleton.2 rfl), rfl⟩
   ·
    constructor
    ·
     rintro ⟨e, he, rfl⟩
     rcases List.mem_append.1 he with he | he
     ·
      obtain ⟨t, ht, h4, h5⟩ := (h3 e.2.1).1 ⟨e, he, rfl⟩
      refine ⟨t, by simp; omega, by rw [hget t ht]; exact h4, fun s hs => ?_⟩
      rw [hget s o9, hget t ht]; exact h5 s hs
     ·
      rw [List.mem_singleton.1 he]
      refine ⟨r.length, by simp, hlast.symm, fun s hs h => ?_⟩
      rw [hget s hs, hlast] at h
      obtain ⟨e, he, hee⟩ := h2 r[s] (List.getElem_mem hs)
      exact hno e he (by rw [hee, h])
    ·
     rintro ⟨t, ht, rfl, h4⟩
     rw [List.length_append, List.length_singleton] at ht
     rcases Nat.lt_or_ge t r.length with h5 | h5
     ·
      obtain ⟨e, he, h⟩ := (h3 r[t]).2 ⟨t, h5, rfl, fun s hs => by
       have := h4 s hs
       rwa [hget s o9, hget t h5] at this⟩
      exact ⟨e, List.mem_append_left _ he, by rw [h, hget t h5]⟩
     ·
      obtain rfl : t = r.length := by omega
      exact ⟨_, List.mem_append_right _ (List.mem_singleton.2 rfl), by rw [hlast]⟩
theorem zgN (ls : Nat → Lay) (f : Int) : ∀ (pre : List Int) (L : Ents) (m : List Bool), (pre.foldl (estep ls f) (true, L, m)).2.1 = pre.foldl (fstep ls) L
 | [], _, _ => rfl
 | x :: r, L, m => by
  rw [List.foldl_cons, List.foldl_cons]
  cases hf : zbs keq (lt ls x) L 0 with
  | some v => rw [zdb s9 hf, zgN ls f r]; simp only [fstep, hf]
  | none => rw [zcK s9 hf, zgN ls f r]; simp only [fstep, hf]
theorem zha (ls : Nat → Lay) (f : Int) : ∀ (a b : List Int), f ∉ a → ((a ++ f :: b).foldl (estep ls f) (false, [], [])).2.1 = fsts ls (f :: b)
 | [], b, _ => by
  rw [List.nil_append, List.foldl_cons]
  have hf : zbs keq (lt ls f) ([] : Ents) 0 = none := rfl
  rw [zcK s9 hf, zgN]
  simp only [fsts, List.foldl_cons, fstep, hf]
 | x :: a, b, h => by
  rw [List.cons_append, List.foldl_cons, zdd (by
   rw [Bool.false_or, beq_iff_eq]
   intro e; exact h (by rw [e]; exact List.mem_cons_self))]
  exact zha ls f a b fun hh => h (List.mem_cons_of_mem _ hh)
theorem zec (N : Nat) (back : Bool) : (idxs N back).length = N := by simp [idxs]
theorem zco (N : Nat) (back : Bool) (t : Nat) (h : t < (idxs N back).length) : (idxs N back)[t] = idx N back t := by simp [idxs]
theorem zkt {N : Nat} {back : Bool} {s t : Nat} (h : idx N back s = idx N back t) : s = t := by
 unfold idx at h; split at h <;> omega
theorem zjm (ls : Nat → Lay) (N : Nat) (back : Bool) (t : Nat) (ht : t < N) : eachL ls N back (idx N back t) = fsts ls ((idxs N back).drop t) := by
 have hl : t < (idxs N back).length := by rw [zec]; exact ht
 have h1 : idxs N back = (idxs N back).take t ++ idx N back t :: (idxs N back).drop (t + 1) := by
  conv => lhs; rw [← List.take_append_drop t (idxs N back), List.drop_eq_getElem_cons hl, zco]
 unfold eachL each
 have h2 : idx N back t ∉ (idxs N back).take t := by
  intro hm
  obtain ⟨s, hs, he⟩ := List.getElem_of_mem hm
  rw [List.getElem_take, zco] at he
  have := zkt he
  rw [List.length_take] at hs
  omega
 rw [h1, zha ls _ _ _ h2, ← h1, List.drop_eq_getElem_cons hl, zco]
theorem zgZ (ls : Nat → Lay) (N : Nat) (back : Bool) (t i : Nat) (ht : t < N) : hits ls N back (idx N back t) i = true ↔ ∃ s, t ≤ s ∧ s < N ∧ (idx N back s).toNat = i ∧ ∀ q, t ≤ q → q < s → lt ls (idx N back q) ≠ lt ls (idx N back s) := by
 unfold hits
 rw [zjm ls N back t ht, List.any_eq_true]
 have h3 := (zgd ls ((idxs N back).drop t)).2.2
 have hg : ∀ s (hs : s < ((idxs N back).drop t).length), ((idxs N back).drop t)[s] = idx N back (t + s) := fun s hs => by rw [List.getElem_drop, zco]
 have hlen : ((idxs N back).drop t).length = N - t := by rw [List.length_drop, zec]
 constructor
 ·
  rintro ⟨e, he, hi⟩
  obtain ⟨s, hs, h4, h5⟩ := (h3 e.2.1).1 ⟨e, he, rfl⟩
  rw [hg s hs] at h4
  refine ⟨t + s, by omega, by omega, by rw [← h4]; exact beq_iff_eq.1 hi, fun q hq1 hq2 => ?_⟩
  have := h5 (q - t) o9
  rwa [hg _ o9, hg _ hs, show t + (q - t) = q by omega] at this
 ·
  rintro ⟨s, h1, h2, h4, h5⟩
  obtain ⟨e, he, hee⟩ := (h3 (idx N back s)).2 ⟨s - t, by omega, by rw [hg _ o9]; congr 1; omega, fun q hq => by
   rw [hg _ o9, hg _ o9, show t + (s - t) = s by omega]
   exact h5 (t + q) o9 o9⟩
  exact ⟨e, he, by rw [hee]; exact beq_iff_eq.2 h4⟩
theorem zfZ (ls : Nat → Lay) (N : Nat) (back : Bool) (i : Nat) : ((fsts ls (idxs N back)).any fun e => true && hits ls N back e.2.1 i) = true ↔
  ∃ t s, t ≤ s ∧ s < N ∧ (idx N back s).toNat = i ∧ (∀ q, q < t → lt ls (idx N back q) ≠ lt ls (idx N back t)) ∧ ∀ q, t ≤ q → q < s → lt ls (idx N back q) ≠ lt ls (idx N back s) := by
 rw [List.any_eq_true]
 have h3 := (zgd ls (idxs N back)).2.2
 constructor
 ·
  rintro ⟨e, he, hh⟩
  rw [Bool.true_and] at hh
  obtain ⟨t, ht, h4, h5⟩ := (h3 e.2.1).1 ⟨e, he, rfl⟩
  rw [zco] at h4
  rw [zec] at ht
  rw [h4, zgZ ls N back t i ht] at hh
  obtain ⟨s, h1, h2, h6, h7⟩ := hh
  refine ⟨t, s, h1, h2, h6, fun q hq => ?_, h7⟩
  have := h5 q hq
  rwa [zco, zco] at this
 ·
  rintro ⟨t, s, h1, h2, h4, h5, h6⟩
  obtain ⟨e, he, hee⟩ := (h3 (idx N back t)).2 ⟨t, by rw [zec]; omega, by rw [zco], fun q hq => by rw [zco, zco]; exact h5 q hq⟩
  refine ⟨e, he, ?_⟩
  rw [Bool.true_and, hee, zgZ ls N back t i o9]
  exact ⟨s, h1, h2, h4, h6⟩
def let_ (ls : Nat → Lay) (i : Nat) : Letter := ((ls i).1, (ls i).2.1)
theorem zjV (ls : Nat → Lay) (i : Int) : lt ls i = let_ ls i.toNat := rfl
theorem zhP (ls : Nat → Lay) (N i : Nat) (hi : i < N) : ((fsts ls (idxs N false)).any fun e => true && hits ls N false e.2.1 i) = true ↔ KeptF (let_ ls) (· < N) i := by
 rw [zfZ]
 have hx : ∀ q : Nat, idx N false q = (q : Int) := fun q => rfl
 simp only [hx, zjV, Int.toNat_natCast]
 constructor
 ·
  rintro ⟨t, s, h1, h2, rfl, h4, h5⟩
  exact ⟨t, h1, Nat.lt_of_le_of_lt h1 h2, fun k _ hk => h4 k hk, fun k _ h6 h7 => h5 k h6 h7⟩
 ·
  rintro ⟨t, h1, h2, h4, h5⟩
  exact ⟨t, i, h1, hi, rfl, fun k hk => h4 k (Nat.lt_trans hk h2) hk, fun k h6 h7 => h5 k (Nat.lt_trans h7 hi) h6 h7⟩
theorem zhO (ls : Nat → Lay) (N i : Nat) (hi : i < N) : ((fsts ls (idxs N true)).any fun e => true && hits ls N true e.2.1 i) = true ↔ KeptB (let_ ls) (· < N) i := by
 rw [zfZ]
 have hx : ∀ q : Nat, idx N true q = (N : Int) - 1 - q := fun q => rfl
 simp only [hx, zjV]
 have hn : ∀ q : Nat, ((N : Int) - 1 - q).toNat = N - 1 - q := fun q => by omega
 simp only [hn]
 constructor
 ·
  rintro ⟨t, s, h1, h2, rfl, h4, h5⟩
  refine ⟨N - 1 - t, by omega, by show N - 1 - t < N; omega, fun k hk h6 => ?_, fun k hk h6 h7 => ?_⟩
  ·
   have hk' : k < N := hk
   have := h4 (N - 1 - k) o9
   rwa [show N - 1 - (N - 1 - k) = k by omega] at this
  ·
   have hk' : k < N := hk
   have := h5 (N - 1 - k) o9 o9
   rwa [show N - 1 - (N - 1 - k) = k by omega] at this
 ·
  rintro ⟨j, h1, h2, h4, h5⟩
  have h2' : j < N := h2
  refine ⟨N - 1 - j, N - 1 - i, by omega, by omega, by omega, fun k hk => ?_, fun k h6 h7 => ?_⟩
  ·
   rw [show N - 1 - (N - 1 - j) = j by omega]
   exact h4 _ (by show N - 1 - k < N; omega) o9
  ·
   rw [show N - 1 - (N - 1 - i) = i by omega]
   exact h5 _ (by show N - 1 - k < N; omega) o9 o9
theorem zhH (ls : Nat → Lay) (N : Nat) (back : Bool) (ms : List Bool) : (marked ls N back ms).length = N := by simp [marked, rowAt]
theorem zhB (ls : Nat → Lay) (N i : Nat) (hi : i < N) : (marked ls N true (marked ls N false (List.replicate N false))).getD i false = true ↔ Kept (let_ ls) (· < N) i := by
 have hg : ∀ b (ms : List Bool), (marked ls N b ms).getD i false = (ms.getD i false || (fsts ls (idxs N b)).any fun e => true && hits ls N b e.2.1 i) := fun b ms => by
  simp [marked, rowAt, hi]
 rw [hg, hg, Bool.or_eq_true, Bool.or_eq_true, zhP ls N i hi, zhO ls N i hi]
 constructor
 ·
  rintro ((h | h) | h)
  ·
   simp [List.getD_eq_getElem?_getD, List.getElem?_replicate, hi] at h
  ·
   exact ⟨hi, .inl h⟩
  ·
   exact ⟨hi, .inr h⟩
 ·
  rintro ⟨_, h | h⟩
  ·
   exact .inl (.inr h)
  ·
   exact .inr h
end Go.Proofs.YtinkbljjpafadaaHChain
end

section
namespace Go.Proofs.Ytinkbljjpafadaa.Pure
open Go.RowKit Go.Proofs.Ytinkbljjpafadaa.PAll Go.Proofs.YtinkbljjpafadaaW.PrintWords Go.Proofs.YtinkbljjpafadaaW.PrintLast Go.Proofs.YtinkbljjpafadaaHChain
abbrev Lr := S35
def fL (x : Lr) : Letter := (x.f0, x.f1)
theorem zhM {A B : Type} {x : Nat → A} {y : Nat → B} {S : Nat → Prop} (h : ∀ i k, S i → S k → (x i = x k ↔ y i = y k)) (i : Nat) : Go.Proofs.YtinkbljjpafadaaHChain.Kept x S i ↔ Go.Proofs.YtinkbljjpafadaaHChain.Kept y S i := by
 unfold Go.Proofs.YtinkbljjpafadaaHChain.Kept KeptF KeptB
 refine and_congr_right fun hi => or_congr (exists_congr fun j => and_congr_right fun _ => and_congr_right fun hj => and_congr ?_ ?_) (exists_congr fun j => and_congr_right fun _ => and_congr_right fun hj => and_congr ?_ ?_)
 ·
  exact forall_congr' fun k => imp_congr_right fun hk => imp_congr_right fun _ => not_congr (h k j hk hj)
 ·
  exact forall_congr' fun k => imp_congr_right fun hk => imp_congr_right fun _ => imp_congr_right fun _ => not_congr (h k i hk hi)
 ·
  exact forall_congr' fun k => imp_congr_right fun hk => imp_congr_right fun _ => not_congr (h k j hk hj)
 ·
  exact forall_congr' fun k => imp_congr_right fun hk => imp_congr_right fun _ => imp_congr_right fun _ => not_congr (h k i hk hi)
theorem zf5 {B : Type} (a : B) (r : List B) (Q : List Nat) : pick (a :: r) (Q.map Nat.succ) = pick r Q := by
 unfold pick
 rw [List.filterMap_map]
 rfl
theorem zhl : ∀ (l : List Lr) (s : List Bool), l.length = s.length → zaB.sel l s = pick l ((List.range l.length).filter fun i => s.getD i false)
 | [], [], _ => rfl
 | [], _ :: _, h => by simp at h
 | _ :: _, [], h => by simp at h
 | x :: r, b :: s, h => by
  have ih := zhl r s (by simpa using h)
  rw [List.length_cons, List.range_succ_eq_map, List.filter_cons]
  have hm : ((List.map Nat.succ (List.range r.length)).filter fun i => (b :: s).getD i false) = ((List.range r.length).filter fun i => s.getD i false).map Nat.succ := by
   rw [List.filter_map]; rfl
  rw [hm]
  cases b
  ·
   simp only [List.getD_cons_zero, Bool.false_eq_true, if_false, zaB.sel]
   rw [zf5, ih]
  ·
   simp only [List.getD_cons_zero, if_true, zaB.sel]
   rw [ih, ← zf5 x r]
   unfold pick
   rw [List.filterMap_cons_some (b := x) s9]
open Classical in
theorem zka (l : List Lr) : zaB.sel l (zaB.ms l) = norm fL l := by
 rw [zhl l _ (by rw [zaB.ms, zhH]), zgs]
 congr 1
 refine List.filter_congr fun i hi => ?_
 have hi' := List.mem_range.1 hi
 rw [Bool.eq_iff_iff, decide_eq_true_iff, zaB.ms, zhB _ _ _ hi']
 refine zhM (fun a b ha hb => ?_) i
 have ha' : a < l.length := ha
 have hb' : b < l.length := hb
 simp [let_, zaB.lay, ha', hb', fL]
theorem zi4 (l : List Lr) (h : l.length < 4398046511104) : zaB.f l = some (norm fL l) := by
 unfold zaB.f
 rw [if_pos h, zka]
theorem zg3 {A B : Type} (f : B → A) (l : List B) : (norm f l).length ≤ l.length := by
 rw [zgs, zhc]
 ·
  exact Nat.le_trans (List.length_filter_le _ _) s9
 ·
  intro i hi; exact List.mem_range.1 (List.mem_filter.1 hi).1
theorem w1 {i n : Nat} (h : i < n) (hn : n < 4398046511104) : wrap64 ((i : Int) + 1) = ((i + 1 : Nat) : Int) := by unfold wrap64; omega
theorem rdT (l : List Lr) (i : Nat) (h : i < l.length) : za4 l (i : Int) = l[i] := by
 unfold za4
 rw [Int.toNat_natCast, List.getD_eq_getElem?_getD, List.getElem?_eq_getElem h]; rfl
theorem zj5 (l : List Lr) (hl : l.length < 4398046511104) : ∀ (k i : Nat), i ≤ l.length → l.length < k + i → zas.l0 k l l (i : Int) = some true
 | 0, i, h1, h2 => by omega
 | k + 1, i, h1, h2 => by
  rw [zas.l0]
  by_cases h : i < l.length
  ·
   rw [if_pos o9, if_pos o9, if_pos o9, if_neg s9, w1 h hl]
   exact zj5 l hl k (i + 1) h o9
  ·
   rw [if_neg o9]
theorem same (l : List Lr) (hl : l.length < 4398046511104) (k : Nat) (hk : l.length < k) : zas.f k l l = some true := by
 unfold zas.f
 rw [if_pos rfl]
 exact zj5 l hl k 0 o9 o9
theorem toL {x y : ByteArray} : x.toList = y.toList ↔ x = y := ⟨fun h => toList_inj h, fun h => by rw [h]⟩
end Go.Proofs.Ytinkbljjpafadaa.Pure
end

section
namespace Go.Proofs.YtinkbljjpafadaaEv
def Evn {α : Type} (g : Nat → Option α) (v : α) : Prop := ∃ K, ∀ k, K ≤ k → g k = some v
section
variable {α β : Type}
theorem Evn.ret (v : α) : Evn (fun _ => some v) v := ⟨0, fun _ _ => rfl⟩
theorem Evn.bind {g : Nat → Option α} {h : Nat → α → Option β} {a : α} {b : β} (hg : Evn g a) (hh : Evn (fun k => h k a) b) : Evn (fun k => (g k).bind fun x => h k x) b := by
 obtain ⟨K1, h1⟩ := hg
 obtain ⟨K2, h2⟩ := hh
 exact ⟨max K1 K2, fun k hk => by show (g k).bind (fun x => h k x) = some b; rw [h1 k o9]; exact h2 k o9⟩
theorem Evn.cbind {a : Option α} {h : Nat → α → Option β} {v : α} {b : β} (ha : a = some v) (hh : Evn (fun k => h k v) b) : Evn (fun k => a.bind fun x => h k x) b := by
 subst ha
 exact hh
theorem Evn.succ {g : Nat → Option α} {v : α} (h : Evn (fun k => g (k + 1)) v) : Evn g v := by
 obtain ⟨K, h⟩ := h
 exact ⟨K + 1, fun k hk => by
  obtain ⟨j, rfl⟩ : ∃ j, k = j + 1 := ⟨k - 1, by omega⟩
  exact h j o9⟩
theorem Evn.congr {g g' : Nat → Option α} {v : α} (e : ∀ k, g k = g' k) (h : Evn g' v) : Evn g v := by
 obtain ⟨K, h⟩ := h
 exact ⟨K, fun k hk => (e k).trans (h k hk)⟩
theorem Evn.pos {p : Prop} [Decidable p] {g h : Nat → Option α} {v : α} (hp : p) (hg : Evn g v) : Evn (fun k => if p then g k else h k) v := Evn.congr (fun k => if_pos hp) hg
theorem Evn.neg {p : Prop} [Decidable p] {g h : Nat → Option α} {v : α} (hp : ¬ p) (hg : Evn h v) : Evn (fun k => if p then g k else h k) v := Evn.congr (fun k => if_neg hp) hg
theorem Evn.ex {g : Nat → Option α} {v : α} (h : Evn g v) : ∃ k, g k = some v := by
 obtain ⟨K, h⟩ := h
 exact ⟨K, h K (Nat.le_refl _)⟩
theorem Evn.of {g : Nat → Option α} {v : α} (K : Nat) (h : ∀ k, K ≤ k → g k = some v) : Evn g v := ⟨K, h⟩
theorem Evn.val {g : Nat → Option α} {v v' : α} (h : Evn g v) (e : v = v') : Evn g v' := e ▸ h
end
end Go.Proofs.YtinkbljjpafadaaEv
end

section
namespace Go.Proofs.Ytinkbljjpafadaa.Pure
open Go.RowKit Go.Proofs.Ytinkbljjpafadaa.PAll Go.Proofs.YtinkbljjpafadaaW.PrintWords Go.Proofs.YtinkbljjpafadaaW.PrintLast Go.Proofs.YtinkbljjpafadaaHChain Go.Proofs.YtinkbljjpafadaaEv Go.Proofs.YtinkbljjpafadaaTab
abbrev Cl := S64
abbrev Mb := S33
theorem rdV (l : List (S58)) (i : Nat) (h : i < l.length) : zbI l (i : Int) = l[i] := by
 unfold zbI
 rw [Int.toNat_natCast, List.getD_eq_getElem?_getD, List.getElem?_eq_getElem h]; rfl
theorem rdS (l : List (S61)) (i : Nat) (h : i < l.length) : za5 l (i : Int) = l[i] := by
 unfold za5
 rw [Int.toNat_natCast, List.getD_eq_getElem?_getD, List.getElem?_eq_getElem h]; rfl
theorem rdM (l : List Mb) (i : Nat) (h : i < l.length) : zbz l (i : Int) = l[i] := by
 unfold zbz
 rw [Int.toNat_natCast, List.getD_eq_getElem?_getD, List.getElem?_eq_getElem h]; rfl
open Classical in
noncomputable def cls : List ByteArray → List Lr → List ByteArray
 | out, [] => out
 | out, x :: r => cls (if x.f1 ∈ out then out else out ++ [x.f1]) r
open Classical in
theorem zgW (o : List ByteArray) (ho : o.length < 4294967296) (x : ByteArray) : za3.f o x = some (decide (x ∈ o)) := by
 unfold za3.f zaA.f
 rw [if_pos o9]
 show some _ = _
 rw [zaA.zh5]
 congr 1
 rw [Bool.eq_iff_iff]
 simp only [List.any_eq_true, decide_eq_true_eq, toL]
 exact ⟨fun ⟨y, h1, h2⟩ => h2 ▸ h1, fun h => ⟨x, h, rfl⟩⟩
open Classical in
theorem zi2 (l : List Lr) (hl : l.length < 4294967296) : ∀ (d i : Nat) (o : List ByteArray), d = l.length - i → i ≤ l.length → o.length ≤ i + 1 → Evn (fun k => zaJ.l0 k o l (l.length : Int) (i : Int)) (cls o (l.drop i)) := by
 intro d
 induction d with
 | zero =>
  intro i o hd hi ho
  refine Evn.succ (Evn.neg o9 ((Evn.ret _).val ?_))
  rw [List.drop_eq_nil_of_le o9]; rfl
 | succ d ih =>
  intro i o hd hi ho
  have h : i < l.length := by omega
  rw [List.drop_eq_getElem_cons h, cls]
  refine Evn.succ (Evn.pos o9 (Evn.pos o9 (Evn.pos o9 (Evn.cbind (h := fun k (t : Bool) => if t = true then _ else _) (zgW o o9 _) ?_))))
  rw [rdT l i h, w1 h o9]
  by_cases hm : l[i].f1 ∈ o
  ·
   rw [if_pos hm]
   exact Evn.pos (by simpa using hm) (ih (i + 1) o o9 o9 o9)
  ·
   rw [if_neg hm]
   exact Evn.neg (by simpa using hm) (Evn.pos o9 (ih (i + 1) _ o9 o9 (by simp; omega)))
theorem zhD (a : ByteArray) (l : List Lr) (hl : l.length < 4294967296) : Evn (fun k => zaJ.f k a l) (cls [a] l) := zi2 l hl l.length 0 [a] o9 o9 s9
theorem zgA (c : ByteArray) : ∀ (l : List Lr) (o : List ByteArray), c ∈ cls o l ↔ c ∈ o ∨ ∃ x ∈ l, x.f1 = c
 | [], o => by simp [cls]
 | x :: r, o => by
  rw [cls, zgA c r]
  by_cases h : x.f1 ∈ o
  ·
   rw [if_pos h]
   constructor
   ·
    rintro (h1 | ⟨y, h1, h2⟩)
    ·
     exact .inl h1
    ·
     exact .inr ⟨y, List.mem_cons_of_mem _ h1, h2⟩
   ·
    rintro (h1 | ⟨y, h1, h2⟩)
    ·
     exact .inl h1
    ·
     rcases List.mem_cons.1 h1 with rfl | h1
     ·
      exact .inl (h2 ▸ h)
     ·
      exact .inr ⟨y, h1, h2⟩
  ·
   rw [if_neg h]
   simp only [List.mem_append, List.mem_singleton, List.mem_cons]
   constructor
   ·
    rintro ((h1 | h1) | ⟨y, h1, h2⟩)
    ·
     exact .inl h1
    ·
     exact .inr ⟨x, .inl rfl, (by simpa using h1 : c = x.f1).symm⟩
    ·
     exact .inr ⟨y, .inr h1, h2⟩
   ·
    rintro (h1 | ⟨y, h1 | h1, h2⟩)
    ·
     exact .inl (.inl h1)
    ·
     exact .inl (.inr (by rw [← h2, h1]; simp))
    ·
     exact .inr ⟨y, h1, h2⟩
open Classical in
theorem zgO : ∀ (l : List Lr) (o : List ByteArray), (cls o l).length ≤ o.length + l.length
 | [], o => by simp [cls]
 | x :: r, o => by
  rw [cls]
  by_cases h : x.f1 ∈ o
  ·
   rw [if_pos h]
   have := zgO r o
   simp only [List.length_cons]; omega
  ·
   rw [if_neg h]
   have := zgO r (o ++ [x.f1])
   simp only [List.length_append, List.length_cons, List.length_nil] at this ⊢; omega
structure TB (t : List Cl) : Prop where
 len : t.length ≤ 9
 fs : ∀ c ∈ t, c.f2.length ≤ 7
 ms : ∀ c ∈ t, c.f3.length ≤ 7
 ps : ∀ c ∈ t, ∀ m ∈ c.f3, m.f1.length ≤ 10
theorem zc7 (t : List Cl) : ∀ (k : Nat) (pre : List Nat) (nm : ByteArray), (lineP t k pre nm).length ≤ k
 | 0, _, _ => by simp [lineP]
 | k + 1, pre, nm => by
  unfold lineP
  split
  ·
   simp
  ·
   split
   ·
    simp
   ·
    have := zc7 t k
    simp only [List.length_cons]
    have h1 := this (pre ++ [(idxC nm t 0).toNat]) (clsAt t (idxC nm t 0).toNat).f1
    omega
theorem zfX (t : List Cl) (p : Nat) (h : p < t.length) : clsAt t p ∈ t := by
 unfold clsAt zar
 rw [Int.toNat_natCast, List.getD_eq_getElem?_getD, List.getElem?_eq_getElem h]
 exact List.getElem_mem h
theorem zfz {α : Type} (f : Nat → List α) (b : Nat) : ∀ (l : List Nat), (∀ p ∈ l, (f p).length ≤ b) → (l.flatMap f).length ≤ l.length * b
 | [], _ => by simp
 | x :: r, h => by
  have h1 := zfz f b r (fun p hp => h p (List.mem_cons_of_mem _ hp))
  have h2 := h x List.mem_cons_self
  simp only [List.flatMap_cons, List.length_append, List.length_cons]
  rw [Nat.succ_mul]; omega
section
variable {t : List Cl} (ht : TB t)
include ht
theorem TB.line (c : ByteArray) : (lineL t c).length ≤ 10 := by
 have := zc7 t (t.length + 1) [] c
 have h := ht.len
 unfold lineL; omega
theorem TB.fields (c : ByteArray) : (zb4 t c).length ≤ 70 := by
 have h1 := ht.line c
 have h2 := zfz (fun p => (clsAt t p).f2) 7 (lineL t c).reverse (fun p hp => ht.fs _ (zfX t p (zcF t _ _ _ _ (List.mem_reverse.1 hp))))
 rw [List.length_reverse] at h2
 exact Nat.le_trans h2 o9
theorem TB.all (c : ByteArray) : zaV.all t c ≤ 70 := by
 have h1 := ht.line c
 have h2 := zfz (fun p => (clsAt t p).f3) 7 (lineL t c).reverse (fun p hp => ht.ms _ (zfX t p (zcF t _ _ _ _ (List.mem_reverse.1 hp))))
 rw [List.length_reverse] at h2
 exact Nat.le_trans h2 o9
theorem TB.small : zaV.small t = true := by
 unfold zaV.small
 have h := ht.len
 simp only [Bool.and_eq_true, decide_eq_true_eq, List.all_eq_true]
 exact ⟨by omega, fun x hx => ⟨by have := ht.ms x hx; omega, fun m hm => by have := ht.ps x hx m hm; omega⟩⟩
end
theorem zfH (out : List (S61)) (m : S61) : (putS out m).length ≤ out.length + 1 := by
 unfold putS
 split <;> simp
theorem zhk : ∀ (l out : List (S61)), (l.foldl putS out).length ≤ out.length + l.length
 | [], out => by simp
 | m :: r, out => by
  have h1 := zhk r (putS out m)
  have h2 := zfH out m
  simp only [List.foldl_cons, List.length_cons]; omega
theorem TB.meths {t : List Cl} (ht : TB t) (c : ByteArray) : (zdt t c).length ≤ 70 := by
 have h1 := zhk ((lineL t c).reverse.flatMap fun p => (clsAt t p).f3) []
 have h2 := ht.all c
 unfold zaV.all at h2
 unfold zdt zi6
 simp only [List.length_nil] at h1; omega
def mem (t : List Cl) (c : ByteArray) : List Mb := (zb4 t c).map (fun v => ⟨v.f0, -1⟩) ++ (zdt t c).map (fun m => ⟨m.f0, (m.f1.length : Int)⟩)
theorem zjN (o : List Mb) (l : List (S61)) (hl : l.length ≤ 70) : ∀ (d i : Nat) (x : List Mb), d = l.length - i → i ≤ l.length → x.length ≤ 70 + i → Evn (fun k => zav.l1 k x l (l.length : Int) (i : Int)) (x ++ (l.drop i).map (fun m => ⟨m.f0, (m.f1.length : Int)⟩)) := by
 intro d
 induction d with
 | zero =>
  intro i x hd hi hx
  refine Evn.succ (Evn.neg o9 ((Evn.ret _).val ?_))
  rw [List.drop_eq_nil_of_le o9]; simp
 | succ d ih =>
  intro i x hd hi hx
  have h : i < l.length := by omega
  rw [List.drop_eq_getElem_cons h]
  refine Evn.succ (Evn.pos o9 (Evn.pos o9 (Evn.pos o9 (Evn.pos o9 ?_))))
  rw [rdS l i h, w1 h o9]
  refine (ih (i + 1) (x ++ [⟨l[i].f0, (l[i].f1.length : Int)⟩]) o9 o9 (by simp; omega)).val ?_
  simp only [List.append_assoc, List.map_cons, List.cons_append, List.nil_append]
theorem zjb (t : List Cl) (ht : TB t) (c : ByteArray) (l : List (S58)) (hl : l.length ≤ 70) : ∀ (d i : Nat) (x : List Mb), d = l.length - i → i ≤ l.length → x.length ≤ i → Evn (fun k => zav.l0 k t c x l (l.length : Int) (i : Int)) (x ++ (l.drop i).map (fun v => ⟨v.f0, -1⟩) ++ (zdt t c).map (fun m => ⟨m.f0, (m.f1.length : Int)⟩)) := by
 intro d
 induction d with
 | zero =>
  intro i x hd hi hx
  refine Evn.succ (Evn.neg o9 (Evn.cbind (a := zaV.f t c) (v := zdt t c) ?_ ?_))
  ·
   unfold zaV.f
   rw [if_pos ⟨ht.small, by have := ht.all c; omega⟩]
  ·
   refine (zjN [] (zdt t c) (ht.meths c) _ 0 x rfl o9 o9).val ?_
   rw [List.drop_eq_nil_of_le (show l.length ≤ i by omega)]; simp
 | succ d ih =>
  intro i x hd hi hx
  have h : i < l.length := by omega
  rw [List.drop_eq_getElem_cons h]
  refine Evn.succ (Evn.pos o9 (Evn.pos o9 (Evn.pos o9 (Evn.pos o9 ?_))))
  rw [rdV l i h, w1 h o9]
  refine (ih (i + 1) (x ++ [⟨l[i].f0, -1⟩]) o9 o9 (by simp; omega)).val ?_
  simp only [List.append_assoc, List.map_cons, List.cons_append, List.nil_append]
theorem zcO {t : List Cl} (ht : TB t) (c : ByteArray) : Evn (fun k => zav.f k t c) (mem t c) := by
 refine Evn.cbind (a := zbZ.f t c) (v := zb4 t c) ?_ ?_
 ·
  unfold zbZ.f
  rw [if_pos ⟨by have := ht.len; omega, by have := ht.fields c; omega⟩]
 ·
  refine (zjb t ht c (zb4 t c) (ht.fields c) _ 0 [] rfl o9 s9).val ?_
  simp [mem]
theorem zdW {t : List Cl} (ht : TB t) (c : ByteArray) : (mem t c).length ≤ 140 := by
 have h1 := ht.fields c
 have h2 := ht.meths c
 simp only [mem, List.length_append, List.length_map]; omega
end Go.Proofs.Ytinkbljjpafadaa.Pure
end

section
namespace Go.Proofs.Ytinkbljjpafadaa.Pure
open Go.RowKit Go.Proofs.Ytinkbljjpafadaa.PAll Go.Proofs.YtinkbljjpafadaaW.PrintWords Go.Proofs.YtinkbljjpafadaaW.PrintLast Go.Proofs.YtinkbljjpafadaaHChain
theorem zjC (l m : List Lr) (h : l.length + m.length < 4294967296) : zb3.f l m = some (norm fL (l ++ m)) := by
 unfold zb3.f
 have e : za7.f [l, m] = some (l ++ m) := by
  unfold za7.f
  rw [if_pos (by simp; omega)]
  simp
 rw [e, Option.bind_some, zi4 _ (by simp; omega)]
 rfl
theorem zkO (l : List Lr) (x : Lr) (h : l.length < 4294967290) : zcs.f l x.f0 x.f1 x.f2 = some (norm fL (l ++ [x])) := by
 unfold zcs.f
 rw [zjC l [x] (by simp; omega)]
 rfl
end Go.Proofs.Ytinkbljjpafadaa.Pure
end

section
namespace Go.Proofs.YtinkbljjpafadaaHChain
section
variable {A B : Type}
open Classical in
theorem ze9 (f : B → A) (l : List B) : ∃ P : List Nat, norm f l = pick l P ∧ (∀ i ∈ P, i < l.length) ∧ Lists P fun i => Kept (fun k => (l[k]?).map f) (· < l.length) i := by
 refine ⟨_, zgs f l, fun i hi => List.mem_range.1 (List.mem_filter.1 hi).1, ?_⟩
 have := (Lists.range l.length).filter fun i => decide (Kept (fun k => (l[k]?).map f) (· < l.length) i)
 exact ⟨this.sorted, fun i => by rw [this.mem, decide_eq_true_iff]; exact ⟨fun h => h.2, fun h => ⟨h.1, h⟩⟩⟩
end
end Go.Proofs.YtinkbljjpafadaaHChain
end

section
namespace Go.Proofs.Ytinkbljjpafadaa.Pure
open Go.RowKit Go.Proofs.Ytinkbljjpafadaa.PAll Go.Proofs.YtinkbljjpafadaaW.PrintWords Go.Proofs.YtinkbljjpafadaaW.PrintLast Go.Proofs.YtinkbljjpafadaaHChain Go.Proofs.YtinkbljjpafadaaEv Go.Proofs.YtinkbljjpafadaaTab Go.Proofs.YtinkbljjpafadaaWords
theorem zkx (x y : Mb) : eqM x y = true ↔ x = y := by
 obtain ⟨a, b⟩ := x
 obtain ⟨c, d⟩ := y
 simp [eqM, toL]
theorem zei (l : List Mb) (m : Mb) : hasM l m = true ↔ m ∈ l := by
 simp only [hasM, List.any_eq_true, zkx]
 exact ⟨fun ⟨x, h1, h2⟩ => h2 ▸ h1, fun h => ⟨m, h, rfl⟩⟩
def hasC (l : List Lr) (c : ByteArray) : Prop := ∃ x ∈ l, x.f1 = c
noncomputable def shw (t : List Cl) (s : ByteArray) (l : List Lr) : List Mb := zcx (mem t s) ((cls [s] l).map (mem t))
theorem zja (ms : List Mb) (ls : List (List Mb)) (m : Mb) : m ∈ zcx ms ls ↔ m ∈ ms ∧ ∀ l ∈ ls, m ∈ l := by
 unfold zcx
 rw [List.mem_filter]
 refine and_congr_right fun _ => ?_
 rw [Bool.not_eq_true', List.any_eq_false]
 exact forall₂_congr fun l hl => by rw [← zei]; simp
theorem zif (t : List Cl) (s : ByteArray) (l : List Lr) (m : Mb) : m ∈ shw t s l ↔ m ∈ mem t s ∧ ∀ c, hasC l c → m ∈ mem t c := by
 unfold shw
 rw [zja]
 refine and_congr_right fun h => ?_
 simp only [List.mem_map, forall_exists_index, and_imp, forall_apply_eq_imp_iff₂, zgA, List.mem_singleton]
 exact ⟨fun h1 c hc => h1 c (.inr hc), fun h1 c hc => hc.elim (fun e => e ▸ h) (fun hc => h1 c hc)⟩
theorem zie (t : List Cl) (s : ByteArray) {l l' : List Lr} (h : ∀ c, hasC l c ↔ hasC l' c) : shw t s l = shw t s l' := by
 unfold shw zcx
 refine List.filter_congr fun m hm => ?_
 rw [Bool.eq_iff_iff, Bool.not_eq_true', Bool.not_eq_true', List.any_eq_false, List.any_eq_false]
 simp only [List.mem_map, forall_exists_index, and_imp, forall_apply_eq_imp_iff₂, zgA, List.mem_singleton]
 exact ⟨fun h1 c hc => h1 c (hc.imp id (h c).2), fun h1 c hc => h1 c (hc.imp id (h c).1)⟩
theorem zeI {t : List Cl} (ht : TB t) (s : ByteArray) (l : List Lr) : (shw t s l).length ≤ 140 := Nat.le_trans (zeZ _ _) (zdW ht s)
theorem zhi {t : List Cl} (ht : TB t) : ∀ cs : List ByteArray, Evn (fun k => zax.lists k t cs) (cs.map (mem t))
 | [] => Evn.ret _
 | c :: r => Evn.bind (h := fun k x => (zax.lists k t r).bind fun xs => some (x :: xs)) (zcO ht c) (Evn.bind (h := fun k xs => some (mem t c :: xs)) (zhi ht r) (Evn.ret _))
theorem zcU {t : List Cl} (ht : TB t) (b c : Int) (s : ByteArray) (l : List Lr) (hl : l.length < 1000000) : Evn (fun k => zax.f k t 7 b c s l) (shw t s l) := by
 refine Evn.pos rfl (Evn.bind (h := fun k cs => (zax.lists k t cs).bind fun ls => (zav.f k t s).bind fun ms => if zax.fits cs ls ms = true then some (zcx ms ls) else none) (zhD s l o9) (Evn.bind (h := fun k ls => (zav.f k t s).bind fun ms => if zax.fits (cls [s] l) ls ms = true then some (zcx ms ls) else none) (zhi ht _) (Evn.bind (h := fun k ms => if zax.fits (cls [s] l) ((cls [s] l).map (mem t)) ms = true then some (zcx ms ((cls [s] l).map (mem t))) else none) (zcO ht s) (Evn.pos ?_ (Evn.ret _)))))
 unfold zax.fits
 simp only [Bool.and_eq_true, decide_eq_true_eq, List.all_eq_true, List.mem_map, forall_exists_index, and_imp, forall_apply_eq_imp_iff₂]
 refine ⟨⟨?_, fun x _ => by have := zdW ht x; omega⟩, by have := zdW ht s; omega⟩
 have := zgO l [s]
 simp only [List.length_singleton] at this; omega
theorem zhz {t : List Cl} {a : Int} (ha : a ≠ 7) (k : Nat) (b c : Int) (s : ByteArray) (l : List Lr) : zax.f k t a b c s l = some [] := by
 unfold zax.f
 rw [if_neg ha]
def kd (a : ByteArray) : Int := if (tag2 a).2 = 0 then 1 else if a.toList = [63] then 2 else if word great a = true then 3 else 0
theorem zh3 (a : ByteArray) (h : a.size ≤ 9223372036854775807) : zb1.f a = some (kd a) := by
 unfold zb1.f zbO.f zcf.f kd
 show (if ((tag2 a).2 == 0) = true then some 1 else if a.toList = [63] then some 2 else (zbu.f a).bind fun t155 => if t155 = true then some 3 else some 0) = _
 by_cases h1 : (tag2 a).2 = 0
 ·
  rw [if_pos (by simpa using h1), if_pos h1]
 ·
  rw [if_neg (by simpa using h1), if_neg h1]
  by_cases h2 : a.toList = [63]
  ·
   rw [if_pos h2, if_pos h2]
  ·
   rw [if_neg h2, if_neg h2]
   unfold zbu.f
   rw [if_pos h]
   show (if word great a = true then some (3 : Int) else some 0) = _
   by_cases h3 : word great a = true
   ·
    rw [if_pos h3, if_pos h3]
   ·
    rw [if_neg h3, if_neg h3]
noncomputable def bhd (merged : Bool) (l : List Lr) (x : Lr) : List Lr := if merged = true then norm fL (l ++ [x]) else l ++ [x]
theorem zjD (l : List Lr) : ∀ x ∈ norm fL l, x ∈ l := by
 obtain ⟨P, h1, h2, _⟩ := ze9 fL l
 rw [h1]
 intro x hx
 obtain ⟨i, hi, e⟩ := List.mem_filterMap.1 hx
 exact List.mem_of_getElem? e
theorem ziK (l : List Lr) (c : ByteArray) : hasC (norm fL l) c ↔ hasC l c := by
 constructor
 ·
  rintro ⟨x, hx, e⟩
  exact ⟨x, zjD l x hx, e⟩
 ·
  rintro ⟨x, hx, e⟩
  obtain ⟨j, hj, ej⟩ := List.getElem_of_mem hx
  obtain ⟨P, h1, h2, h3⟩ := ze9 fL l
  obtain ⟨i, hij, hi, hmin⟩ := least (p := fun i => ∃ h : i < l.length, fL l[i] = fL x) (n := j) ⟨hj, by rw [ej]⟩
  obtain ⟨hil, hie⟩ := hi
  have hk : Go.Proofs.YtinkbljjpafadaaHChain.Kept (fun k => (l[k]?).map fL) (· < l.length) i := zhX hil fun k hk hki he => hmin k hki ⟨hk, by
   simp only [List.getElem?_eq_getElem hk, List.getElem?_eq_getElem hil, Option.map_some, Option.some.injEq] at he
   rw [he, hie]⟩
  refine ⟨l[i], ?_, ?_⟩
  ·
   rw [h1]
   exact List.mem_filterMap.2 ⟨i, (h3.2 i).2 hk, List.getElem?_eq_getElem hil⟩
  ·
   rw [← e]
   exact congrArg Prod.snd hie
theorem zd9 (merged : Bool) (l : List Lr) (x : Lr) (c : ByteArray) : hasC (bhd merged l x) c ↔ hasC l c ∨ x.f1 = c := by
 have h : hasC (l ++ [x]) c ↔ hasC l c ∨ x.f1 = c := by
  constructor
  ·
   rintro ⟨y, hy, e⟩
   rcases List.mem_append.1 hy with hy | hy
   ·
    exact .inl ⟨y, hy, e⟩
   ·
    rw [List.mem_singleton.1 hy] at e; exact .inr e
  ·
   rintro (⟨y, hy, e⟩ | e)
   ·
    exact ⟨y, List.mem_append_left _ hy, e⟩
   ·
    exact ⟨x, by simp, e⟩
 unfold bhd
 split
 ·
  rw [ziK, h]
 ·
  exact h
theorem zgz (merged : Bool) (l : List Lr) (x : Lr) : (bhd merged l x).length ≤ l.length + 1 := by
 unfold bhd
 split
 ·
  have := zg3 fL (l ++ [x]); simpa using this
 ·
  simp
theorem zf7 (t : List Cl) (merged : Bool) (lab a b c : Int) (s : ByteArray) (l : List Lr) (out : Bool) (cl : ByteArray) (hl : l.length < 1000000) : zaK.f t merged lab a b c s l out cl = some (a, b, c, s, bhd merged l ⟨out, cl, lab⟩) := by
 unfold zaK.f bhd
 cases merged with
 | true =>
  rw [if_pos rfl, if_pos rfl, zkO l ⟨out, cl, lab⟩ o9]
  rfl
 | false =>
  rw [if_neg s9, if_neg s9]
  unfold zaW.f
  rw [if_pos o9]
  show (if l.length + 1 < 4398046511104 then some _ else none) = _
  rw [if_pos o9]
noncomputable def lvC (merged : Bool) (l : List Lr) (s : ByteArray) (lab a : Int) : List Lr := if kd s = 3 ∧ a = 7 then bhd merged l ⟨false, s, lab⟩ else l
theorem zfK (l : List Lr) (hl : l.length < 1000000) : zaW.f l = some l := by
 unfold zaW.f
 rw [if_pos o9]
theorem ziB (t : List Cl) (merged : Bool) (lab a b c : Int) (s : ByteArray) (l : List Lr) (ty : ByteArray) (hl : l.length < 1000000) (hty : ty.size ≤ 9223372036854775807) : Evn (fun k => zau.f k t merged lab a b c s l ty) (a, b, c, s, lvC merged l ty lab a) := by
 refine Evn.cbind (zh3 ty hty) ?_
 unfold lvC
 by_cases h3 : kd ty = 3
 ·
  by_cases h7 : a = 7
  ·
   refine Evn.pos h3 (Evn.succ (Evn.neg (by simp [h7]) (Evn.cbind (zf7 t merged lab a b c s l false ty hl) ((Evn.ret _).val ?_))))
   rw [if_pos ⟨h3, h7⟩]
  ·
   refine Evn.pos h3 (Evn.succ (Evn.pos (by simpa using h7) (Evn.cbind (zfK l hl) ((Evn.ret _).val ?_))))
   rw [if_neg (fun h => h7 h.2)]
 ·
  refine Evn.neg h3 (Evn.succ (Evn.congr (g' := fun _ => (zaW.f l).bind fun t194 => some (a, b, c, s, t194)) (fun k => rfl) (Evn.cbind (zfK l hl) ((Evn.ret _).val ?_))))
  rw [if_neg (fun h => h3 h.1)]
theorem zhm (t : List Cl) (merged : Bool) (lab a b c : Int) (s : ByteArray) (l : List Lr) (ty : ByteArray) (hl : l.length < 1000000) (hty : ty.size ≤ 9223372036854775807) : Evn (fun k => zbf.f k t a b c s l ty lab merged) (a, b, c, s, lvC merged l ty lab a) :=
 Evn.bind (h := fun _ (bt : Int × Int × Int × ByteArray × List Lr) => some (bt.1, bt.2.1, bt.2.2.1, bt.2.2.2.1, bt.2.2.2.2)) (ziB t merged lab a b c s l ty hl hty) (Evn.ret _)
noncomputable def entC (t : List Cl) (merged : Bool) (lab a : Int) (s : ByteArray) (l : List Lr) (ty : ByteArray) : Option (List Lr) :=
 if kd ty = 2 then some l else if kd ty = 1 then (if a = (tag2 ty).1 then some l else none)
 else if kd ty = 3 then (if a = 6 then some l else if a = 7 then (if ((mem t ty).any fun x => !hasM (shw t s l) x) = true then none else some (bhd merged l ⟨true, ty, lab⟩)) else none) else none
theorem zk7 {t : List Cl} (ht : TB t) (merged : Bool) (lab a b c : Int) (s : ByteArray) (l : List Lr) (ty : ByteArray) (hl : l.length < 1000000) (hty : ty.size ≤ 9223372036854775807) :
  Evn (fun k => zaF.ent k t a b c s l ty lab merged) ((entC t merged lab a s l ty).map fun l' => (a, b, c, s, l')) := by
 refine Evn.cbind (show zcf.f ty = some (tag2 ty) from rfl) (Evn.cbind (zh3 ty hty) (Evn.cbind (zfK l hl) ?_))
 unfold entC
 by_cases h2 : kd ty = 2
 ·
  refine Evn.pos h2 ((Evn.ret _).val ?_)
  rw [if_pos h2]; rfl
 refine Evn.neg h2 ?_
 rw [if_neg h2]
 by_cases h1 : kd ty = 1
 ·
  refine Evn.pos h1 ?_
  rw [if_pos h1]
  by_cases ha : a = (tag2 ty).1
  ·
   refine Evn.pos ha ((Evn.ret _).val ?_)
   rw [if_pos ha]; rfl
  ·
   refine Evn.neg ha ((Evn.ret _).val ?_)
   rw [if_neg ha]; rfl
 refine Evn.neg h1 ?_
 rw [if_neg h1]
 by_cases h3 : kd ty = 3
 ·
  refine Evn.pos h3 ?_
  rw [if_pos h3]
  by_cases h6 : a = 6
  ·
   refine Evn.pos h6 ((Evn.ret _).val ?_)
   rw [if_pos h6]; rfl
  refine Evn.neg h6 ?_
  rw [if_neg h6]
  by_cases h7 : a = 7
  ·
   subst h7
   rw [if_pos rfl]
   refine Evn.bind (zcU ht b c s l hl) (Evn.pos rfl (Evn.bind (zcO ht ty) (Evn.pos ⟨by have := zeI ht s l; omega, by have := zdW ht ty; omega⟩ ?_)))
   by_cases hm : ((mem t ty).any fun x => !hasM (shw t s l) x) = true
   ·
    refine Evn.pos hm ((Evn.ret _).val ?_)
    rw [if_pos hm]; rfl
   ·
    refine Evn.neg hm (Evn.cbind (zf7 t merged lab 7 b c s l true ty hl) ((Evn.ret _).val ?_))
    rw [if_neg hm]; rfl
  ·
   rw [if_neg h7]
   exact Evn.bind (Evn.congr (fun k => zhz h7 k b c s l) (Evn.ret _)) (Evn.neg h7 (Evn.ret _))
 ·
  refine Evn.neg h3 ((Evn.ret _).val ?_)
  rw [if_neg h3]; rfl
end Go.Proofs.Ytinkbljjpafadaa.Pure
end
