/- Parts of the proof of one statement, packed: what the program's functions compute. No conditions. -/
import Derived.Test.YtinkbljjpafadaaKC1
import Derived.Test.YtinkbljjpafadaaKC3
import Derived.Test.YtinkbljjpafadaaKC4
import Derived.Below
import Derived.Test.YtinkbljjpafadaaKC2
set_option linter.unusedSimpArgs false
set_option linter.unusedVariables false
set_option maxRecDepth 100000
set_option maxHeartbeats 8000000
section
namespace Go.Proofs.Ytinkbljjpafadaa.PAll
open Go.RowKit Go.Proofs.YtinkbljjpafadaaW.PrintWords Go.Proofs.YtinkbljjpafadaaW.PrintLast Go.Proofs.YtinkbljjpafadaaW.zaT
attribute [local go_sem] za7 zba zbo zbp zaW zaV za8 za9
mutual
def zak.l0 : Nat → Int → Int → Int → Int → ByteArray → List (S35) → Option (Bool)
 | 0, _, _, _, _, _, _ => none
 | k + 1, x3, x270000, x270001, x270002, x270003, x270004 => if x3 < (x270004.length : Int) then (zak.j1 k x3 (decide (x3 < 61)) x270000 x270001 x270002 x270003 x270004) else (zak.j1 k x3 false x270000 x270001 x270002 x270003 x270004)
def zak.j1 : Nat → Int → Bool → Int → Int → Int → ByteArray → List (S35) → Option (Bool)
 | 0, _, _, _, _, _, _, _ => none
 | k + 1, x3, x12, x270000, x270001, x270002, x270003, x270004 => if x12 = true then (if 0 ≤ x3 then (if x3 < (x270004.length : Int) then (if (((za3 x270004 x3).f1).size : Int) > 60 then (some true) else (zak.l0 k (wrap64 (x3 + 1)) x270000 x270001 x270002 x270003 x270004)) else (none)) else (none)) else (if (x270004.length : Int) > 60 then (some true) else (some (decide ((x270003.size : Int) > 60))))
end
def zak.f (k : Nat) (a0_0 : Int) (a0_1 : Int) (a0_2 : Int) (a0_3 : ByteArray) (l0_4 : List (S35)) : Option (Bool) := zak.l0 k 0 a0_0 a0_1 a0_2 a0_3 l0_4
theorem zak.zbM : ∀ k, (∀ y0 y1 y2 y3 y4 y5, LeO (zak.l0 k y0 y1 y2 y3 y4 y5) (zak.l0 (k + 1) y0 y1 y2 y3 y4 y5)) ∧ (∀ y0 y1 y2 y3 y4 y5 y6, LeO (zak.j1 k y0 y1 y2 y3 y4 y5 y6) (zak.j1 (k + 1) y0 y1 y2 y3 y4 y5 y6))
 | 0 => ⟨fun _ _ _ _ _ _ r h => by simp [zak.l0] at h, fun _ _ _ _ _ _ _ r h => by simp [zak.j1] at h⟩
 | k + 1 => by
  obtain ⟨ih0, ih1⟩ := zak.zbM k
  refine ⟨?_, ?_⟩
  ·
   intro y0 y1 y2 y3 y4 y5
   unfold zak.l0
   repeat' first
   | (with_reducible exact ih0 _ _ _ _ _ _)
   | (with_reducible exact ih1 _ _ _ _ _ _ _)
   | (with_reducible exact LeO.refl _)
   | (with_reducible exact LeO.none _)
   | (with_reducible refine LeO.ite ?_ ?_)
   | (with_reducible refine LeO.bind ?_ (fun _ => ?_))
   | exact ih0 _ _ _ _ _ _
   | exact ih1 _ _ _ _ _ _ _
   | exact LeO.none _
   | refine LeO.ite ?_ ?_
   | refine LeO.bind ?_ (fun _ => ?_)
  ·
   intro y0 y1 y2 y3 y4 y5 y6
   unfold zak.j1
   repeat' first
   | (with_reducible exact ih0 _ _ _ _ _ _)
   | (with_reducible exact ih1 _ _ _ _ _ _ _)
   | (with_reducible exact LeO.refl _)
   | (with_reducible exact LeO.none _)
   | (with_reducible refine LeO.ite ?_ ?_)
   | (with_reducible refine LeO.bind ?_ (fun _ => ?_))
   | exact ih0 _ _ _ _ _ _
   | exact ih1 _ _ _ _ _ _ _
   | exact LeO.none _
   | refine LeO.ite ?_ ?_
   | refine LeO.bind ?_ (fun _ => ?_)
theorem zak.mono : ∀ a0 a1 a2 a3 a4 k, LeO (zak.f k a0 a1 a2 a3 a4) (zak.f (k + 1) a0 a1 a2 a3 a4) := by
 intro a0 a1 a2 a3 a4 k
 obtain ⟨ih0, ih1⟩ := zak.zbM k
 unfold zak.f
 repeat' first
   | (with_reducible exact ih0 _ _ _ _ _ _)
   | (with_reducible exact ih1 _ _ _ _ _ _ _)
   | (with_reducible exact LeO.refl _)
   | (with_reducible exact LeO.none _)
   | (with_reducible refine LeO.ite ?_ ?_)
   | (with_reducible refine LeO.bind ?_ (fun _ => ?_))
   | exact ih0 _ _ _ _ _ _
   | exact ih1 _ _ _ _ _ _ _
   | exact LeO.none _
   | refine LeO.ite ?_ ?_
   | refine LeO.bind ?_ (fun _ => ?_)
theorem zak.calls (k : Nat) (a0_0 : Int) (a0_1 : Int) (a0_2 : Int) (a0_3 : ByteArray) (A0_4 : Option Addr) (c0_4 : Nat) (l0_4 : List (S35)) (r : Bool) (w : World) (hr0_4 : Kd.C k35 w A0_4 l0_4.length l0_4) (hc0_4 : l0_4.length ≤ c0_4) (h : zak.f k a0_0 a0_1 a0_2 a0_3 l0_4 = some r) :
  Calls Try.prog 20 #[.agg #[.int .i64 a0_0, .int .i64 a0_1, .int .u64 a0_2, .string a0_3, .slice A0_4 l0_4.length c0_4]] w fun e w' => e = .returned (.bool r) ∧ Below w.heap.size w w' := by
 have hu27 := Try.underlying27
 have HR0_4 := zaa.mk hr0_4
 have HC0_4 := zaa.mk hc0_4
 clear hr0_4 hc0_4
 have HB := zaa.mk (Below.refl w.heap.size w)
 have H : (zak.l0 k 0 a0_0 a0_1 a0_2 a0_3 l0_4) = some r := h
 clear h
 have H' := zaa.mk H
 clear H
 go_enter Try.func20, Try.ntmps20
 go_wp2_with (first | ((with_reducible refine zaL (N := 1) rfl ?_); (try (refine zcl (by rfl) ?_; dsimp only)); refine zbq (N := 1) (cs := #[.int .i64 a0_0, .int .i64 a0_1, .int .u64 a0_2, .string a0_3, .slice A0_4 l0_4.length c0_4]) (t := 27) ?_; intro gb269 hg w2 hbox hb; have BK269 := zaa.mk (hbox); have GW269 := zaa.mk (gw hg (bl HB.out) : w.heap.size ≤ gb269); have GE269 := GW269; replace HB := zaa.mk (zan (bl HB.out) hb); clear hb hbox hg))
 go_loopg [3] k (fun kq v3 w' => ∃ (x3_1 : Int), v3 = .int .i64 x3_1 ∧ zaa (zak.l0 kq x3_1 a0_0 a0_1 a0_2 a0_3 l0_4 = some r) ∧ zaa (kq ≤ k) ∧ zaa (w'.heap[gb269]? = some (.cells #[.int .i64 a0_0, .int .i64 a0_1, .int .u64 a0_2, .string a0_3, (.slice A0_4 l0_4.length c0_4)] 27 (0, 0))) ∧ zaa (Below w.heap.size w w'))
 case atStart => exact ⟨(0), (by first | rfl | (simp; done) | (simp [*]; done)), H', ⟨Nat.le_refl _⟩, ⟨bk BK269.out⟩, ⟨bl HB.out⟩⟩
 case round =>
  clear H'
  try clear c2
  try clear p2
  obtain ⟨x3_1, rfl, HA, HK1, BK269, HB⟩ := hrel
  cases gk with
  | zero => exact absurd HA.out (by simp [zak.l0])
  | succ k1 =>
   have H := HA.out
   clear HA
   simp only [zak.l0] at H
   have HC3 := zaa.mk H
   clear H
   go_upto_region 2 with (fail)
   go_cut [12] (fun v12 wc => ∃ (kq : Nat) (x12_2 : Bool), v12 = .bool x12_2 ∧ zaa (zak.j1 kq x3_1 x12_2 a0_0 a0_1 a0_2 a0_3 l0_4 = some r) ∧ zaa (kq ≤ k1) ∧ zaa (wc.heap[gb269]? = some (.cells #[.int .i64 a0_0, .int .i64 a0_1, .int .u64 a0_2, .string a0_3, (.slice A0_4 l0_4.length c0_4)] 27 (0, 0))) ∧ zaa (Below w.heap.size w wc))
   case first =>
    have H := HC3.out
    clear HC3
    by_cases c4 : x3_1 < (l0_4.length : Int)
    ·
     rw [if_pos c4] at H
     have c4b0 : decide (x3_1 < (l0_4.length : Int)) = true := decide_eq_true c4
     clear c4
     (first | rw [c4b0] | (simp only [i64_w, i32_w]; rw [c4b0]) | skip)
     have H' := zaa.mk H
     clear H
     have hcz5_0 : wr.cell? ⟨gb269, 0, none⟩ = some (.int .i64 a0_0) := (zac BK269.out 0).trans rfl
     have hcz5_1 : wr.cell? ⟨gb269, 1, none⟩ = some (.int .i64 a0_1) := (zac BK269.out 1).trans rfl
     have hcz5_2 : wr.cell? ⟨gb269, 2, none⟩ = some (.int .u64 a0_2) := (zac BK269.out 2).trans rfl
     have hcz5_3 : wr.cell? ⟨gb269, 3, none⟩ = some (.string a0_3) := (zac BK269.out 3).trans rfl
     have hcz5_4 : wr.cell? ⟨gb269, 4, none⟩ = some (.slice A0_4 l0_4.length c0_4) := (zac BK269.out 4).trans rfl
     have hfz5_0 := zab BK269.out 0
     have hfz5_1 := zab BK269.out 1
     have hfz5_2 := zab BK269.out 2
     have hfz5_3 := zab BK269.out 3
     have hfz5_4 := zab BK269.out 4
     go_wp2
     go_meet
     case rel => exact ⟨_, (decide (x3_1 < 61)), (by first | rfl | (simp; done) | (simp [*]; done)), H', ⟨by have := HK1.out; first | omega | exact Nat.le_refl _⟩, ⟨bk BK269.out⟩, ⟨bl HB.out⟩⟩
    ·
     rw [if_neg c4] at H
     have c4b0 : decide (x3_1 < (l0_4.length : Int)) = false := decide_eq_false c4
     clear c4
     (first | rw [c4b0] | (simp only [i64_w, i32_w]; rw [c4b0]) | skip)
     have H' := zaa.mk H
     clear H
     have hcz6_0 : wr.cell? ⟨gb269, 0, none⟩ = some (.int .i64 a0_0) := (zac BK269.out 0).trans rfl
     have hcz6_1 : wr.cell? ⟨gb269, 1, none⟩ = some (.int .i64 a0_1) := (zac BK269.out 1).trans rfl
     have hcz6_2 : wr.cell? ⟨gb269, 2, none⟩ = some (.int .u64 a0_2) := (zac BK269.out 2).trans rfl
     have hcz6_3 : wr.cell? ⟨gb269, 3, none⟩ = some (.string a0_3) := (zac BK269.out 3).trans rfl
     have hcz6_4 : wr.cell? ⟨gb269, 4, none⟩ = some (.slice A0_4 l0_4.length c0_4) := (zac BK269.out 4).trans rfl
     have hfz6_0 := zab BK269.out 0
     have hfz6_1 := zab BK269.out 1
     have hfz6_2 := zab BK269.out 2
     have hfz6_3 := zab BK269.out 3
     have hfz6_4 := zab BK269.out 4
     go_wp2
     go_meet
     case rel => exact ⟨_, (false), (by first | rfl | (simp; done) | (simp [*]; done)), H', ⟨by have := HK1.out; first | omega | exact Nat.le_refl _⟩, ⟨bk BK269.out⟩, ⟨bl HB.out⟩⟩
   case rest =>
    clear HC3
    try clear c2
    try clear p2
    try clear c4
    try clear c4b0
    try clear hcz5_0
    try clear hcz5_1
    try clear hcz5_2
    try clear hcz5_3
    try clear hcz5_4
    try clear hcz6_0
    try clear hcz6_1
    try clear hcz6_2
    try clear hcz6_3
    try clear hcz6_4
    try clear hfz5_0
    try clear hfz5_1
    try clear hfz5_2
    try clear hfz5_3
    try clear hfz5_4
    try clear hfz6_0
    try clear hfz6_1
    try clear hfz6_2
    try clear hfz6_3
    try clear hfz6_4
    try clear p2
    obtain ⟨kq, x12_2, rfl, HA, HJ2, BK269, HB⟩ := hcut
    cases kq with
    | zero => exact absurd HA.out (by simp [zak.j1])
    | succ kj2 =>
     have H := HA.out
     clear HA
     simp only [zak.j1] at H
     by_cases c7 : x12_2 = true
     ·
      subst c7
      have H1 : (if 0 ≤ x3_1 then (if x3_1 < (l0_4.length : Int) then (if (((za3 l0_4 x3_1).f1).size : Int) > 60 then (some true) else (zak.l0 kj2 (wrap64 (x3_1 + 1)) a0_0 a0_1 a0_2 a0_3 l0_4)) else (none)) else (none)) = some r := by rw [if_pos rfl] at H; exact H
      clear H
      have H := H1
      clear H1
      by_cases c8 : 0 ≤ x3_1
      ·
       rw [if_pos c8] at H
       have c8b0 : decide (0 ≤ x3_1) = true := decide_eq_true c8
       clear c8
       by_cases c9 : x3_1 < (l0_4.length : Int)
       ·
        rw [if_pos c9] at H
        have c9b0 : decide (x3_1 < (l0_4.length : Int)) = true := decide_eq_true c9
        clear c9
        by_cases c10 : (((za3 l0_4 x3_1).f1).size : Int) > 60
        ·
         rw [if_pos c10] at H
         have c10b0 : decide (60 < (((za3 l0_4 x3_1).f1).size : Int)) = true := decide_eq_true c10
         have c10b1 : decide (60 < ((za3 l0_4 x3_1).f1).size) = true := decide_eq_true o9
         clear c10
         obtain rfl := Option.some.inj H
         have hcz11_0 : wc.cell? ⟨gb269, 0, none⟩ = some (.int .i64 a0_0) := (zac BK269.out 0).trans rfl
         have hcz11_1 : wc.cell? ⟨gb269, 1, none⟩ = some (.int .i64 a0_1) := (zac BK269.out 1).trans rfl
         have hcz11_2 : wc.cell? ⟨gb269, 2, none⟩ = some (.int .u64 a0_2) := (zac BK269.out 2).trans rfl
         have hcz11_3 : wc.cell? ⟨gb269, 3, none⟩ = some (.string a0_3) := (zac BK269.out 3).trans rfl
         have hcz11_4 : wc.cell? ⟨gb269, 4, none⟩ = some (.slice A0_4 l0_4.length c0_4) := (zac BK269.out 4).trans rfl
         have hfz11_0 := zab BK269.out 0
         have hfz11_1 := zab BK269.out 1
         have hfz11_2 := zab BK269.out 2
         have hfz11_3 := zab BK269.out 3
         have hfz11_4 := zab BK269.out 4
         have p270 : 0 ≤ (x3_1 : Int) := of_decide_eq_true (by first | (with_reducible assumption) | assumption)
         have q270 : x3_1 < (l0_4.length : Int) := of_decide_eq_true (by first | (with_reducible assumption) | assumption)
         obtain ⟨ad270, e270, hx270_0, hx270_1, hx270_2⟩ := zcR HR0_4.out x3_1 p270 q270
         cases e270
         replace hx270_0 := (HB.out.cell (World.block_lt_of_cell? w _ hx270_0)).trans hx270_0
         replace hx270_1 := (HB.out.cell (World.block_lt_of_cell? w _ hx270_1)).trans hx270_1
         replace hx270_2 := (HB.out.cell (World.block_lt_of_cell? w _ hx270_2)).trans hx270_2
         replace p270 := eq_true p270
         replace q270 := eq_true q270
         go_wp2
         go_ret
         exact ⟨by first | rfl | (simp [zaz, zaA] <;> rfl) | (simp [*, zaz, zaA] <;> rfl), bl HB.out⟩
        ·
         rw [if_neg c10] at H
         have c10b0 : decide (60 < (((za3 l0_4 x3_1).f1).size : Int)) = false := decide_eq_false c10
         have c10b1 : decide (60 < ((za3 l0_4 x3_1).f1).size) = false := decide_eq_false o9
         clear c10
         have H' := zaa.mk H
         clear H
         have hcz12_0 : wc.cell? ⟨gb269, 0, none⟩ = some (.int .i64 a0_0) := (zac BK269.out 0).trans rfl
         have hcz12_1 : wc.cell? ⟨gb269, 1, none⟩ = some (.int .i64 a0_1) := (zac BK269.out 1).trans rfl
         have hcz12_2 : wc.cell? ⟨gb269, 2, none⟩ = some (.int .u64 a0_2) := (zac BK269.out 2).trans rfl
         have hcz12_3 : wc.cell? ⟨gb269, 3, none⟩ = some (.string a0_3) := (zac BK269.out 3).trans rfl
         have hcz12_4 : wc.cell? ⟨gb269, 4, none⟩ = some (.slice A0_4 l0_4.length c0_4) := (zac BK269.out 4).trans rfl
         have hfz12_0 := zab BK269.out 0
         have hfz12_1 := zab BK269.out 1
         have hfz12_2 := zab BK269.out 2
         have hfz12_3 := zab BK269.out 3
         have hfz12_4 := zab BK269.out 4
         have p270 : 0 ≤ (x3_1 : Int) := of_decide_eq_true (by first | (with_reducible assumption) | assumption)
         have q270 : x3_1 < (l0_4.length : Int) := of_decide_eq_true (by first | (with_reducible assumption) | assumption)
         obtain ⟨ad270, e270, hx270_0, hx270_1, hx270_2⟩ := zcR HR0_4.out x3_1 p270 q270
         cases e270
         replace hx270_0 := (HB.out.cell (World.block_lt_of_cell? w _ hx270_0)).trans hx270_0
         replace hx270_1 := (HB.out.cell (World.block_lt_of_cell? w _ hx270_1)).trans hx270_1
         replace hx270_2 := (HB.out.cell (World.block_lt_of_cell? w _ hx270_2)).trans hx270_2
         replace p270 := eq_true p270
         replace q270 := eq_true q270
         go_wp2
         go_roundg kj2
         case measure => have := HK1.out; have := HJ2.out; omega
         case rel => exact ⟨(wrap64 (x3_1 + 1)), (by first | rfl | (simp; done) | (simp [*]; done)), H', ⟨by have := HK1.out; have := HJ2.out; omega⟩, ⟨bk BK269.out⟩, ⟨bl HB.out⟩⟩
       ·
        rw [if_neg c9] at H
        exact absurd H s9
      ·
       rw [if_neg c8] at H
       exact absurd H s9
     ·
      replace c7 := Bool.eq_false_iff.mpr c7
      subst c7
      have H1 : (if (l0_4.length : Int) > 60 then (some true) else (some (decide ((a0_3.size : Int) > 60)))) = some r := by rw [if_neg (show ¬ (false = true) by decide)] at H; exact H
      clear H
      have H := H1
      clear H1
      by_cases c13 : (l0_4.length : Int) > 60
      ·
       rw [if_pos c13] at H
       have c13b0 : decide (60 < (l0_4.length : Int)) = true := decide_eq_true c13
       have c13b1 : decide (60 < l0_4.length) = true := decide_eq_true o9
       clear c13
       obtain rfl := Option.some.inj H
       have hcz14_0 : wc.cell? ⟨gb269, 0, none⟩ = some (.int .i64 a0_0) := (zac BK269.out 0).trans rfl
       have hcz14_1 : wc.cell? ⟨gb269, 1, none⟩ = some (.int .i64 a0_1) := (zac BK269.out 1).trans rfl
       have hcz14_2 : wc.cell? ⟨gb269, 2, none⟩ = some (.int .u64 a0_2) := (zac BK269.out 2).trans rfl
       have hcz14_3 : wc.cell? ⟨gb269, 3, none⟩ = some (.string a0_3) := (zac BK269.out 3).trans rfl
       have hcz14_4 : wc.cell? ⟨gb269, 4, none⟩ = some (.slice A0_4 l0_4.length c0_4) := (zac BK269.out 4).trans rfl
       have hfz14_0 := zab BK269.out 0
       have hfz14_1 := zab BK269.out 1
       have hfz14_2 := zab BK269.out 2
       have hfz14_3 := zab BK269.out 3
       have hfz14_4 := zab BK269.out 4
       go_wp2
       go_ret
       exact ⟨by first | rfl | (simp [zaz, zaA] <;> rfl) | (simp [*, zaz, zaA] <;> rfl), bl HB.out⟩
      ·
       rw [if_neg c13] at H
       have c13b0 : decide (60 < (l0_4.length : Int)) = false := decide_eq_false c13
       have c13b1 : decide (60 < l0_4.length) = false := decide_eq_false o9
       clear c13
       obtain rfl := Option.some.inj H
       have hcz15_0 : wc.cell? ⟨gb269, 0, none⟩ = some (.int .i64 a0_0) := (zac BK269.out 0).trans rfl
       have hcz15_1 : wc.cell? ⟨gb269, 1, none⟩ = some (.int .i64 a0_1) := (zac BK269.out 1).trans rfl
       have hcz15_2 : wc.cell? ⟨gb269, 2, none⟩ = some (.int .u64 a0_2) := (zac BK269.out 2).trans rfl
       have hcz15_3 : wc.cell? ⟨gb269, 3, none⟩ = some (.string a0_3) := (zac BK269.out 3).trans rfl
       have hcz15_4 : wc.cell? ⟨gb269, 4, none⟩ = some (.slice A0_4 l0_4.length c0_4) := (zac BK269.out 4).trans rfl
       have hfz15_0 := zab BK269.out 0
       have hfz15_1 := zab BK269.out 1
       have hfz15_2 := zab BK269.out 2
       have hfz15_3 := zab BK269.out 3
       have hfz15_4 := zab BK269.out 4
       go_wp2
       go_ret
       exact ⟨by first | rfl | (simp [zaz, zaA] <;> rfl) | (simp [*, zaz, zaA] <;> rfl), bl HB.out⟩
def zaw.l0 : Nat → List (S35) → Int → Option (Bool)
 | 0, _, _ => none
 | k + 1, x0, x3 => if x3 < (x0.length : Int) then (if 0 ≤ x3 then (if ((za3 x0 x3).f2) = 0 then (some true) else (zaw.l0 k x0 (wrap64 (x3 + 1)))) else (none)) else (some false)
def zaw.f (k : Nat) (l0 : List (S35)) : Option (Bool) := zaw.l0 k l0 0
theorem zaw.zbM : ∀ k, (∀ y0 y1, LeO (zaw.l0 k y0 y1) (zaw.l0 (k + 1) y0 y1))
 | 0 => fun _ _ r h => by simp [zaw.l0] at h
 | k + 1 => by
  have ih0 := zaw.zbM k
  ·
   intro y0 y1
   unfold zaw.l0
   repeat' first
   | (with_reducible exact ih0 _ _)
   | (with_reducible exact LeO.refl _)
   | (with_reducible exact LeO.none _)
   | (with_reducible refine LeO.ite ?_ ?_)
   | (with_reducible refine LeO.bind ?_ (fun _ => ?_))
   | exact ih0 _ _
   | exact LeO.none _
   | refine LeO.ite ?_ ?_
   | refine LeO.bind ?_ (fun _ => ?_)
theorem zaw.mono : ∀ a0 k, LeO (zaw.f k a0) (zaw.f (k + 1) a0) := by
 intro a0 k
 have ih0 := zaw.zbM k
 unfold zaw.f
 repeat' first
   | (with_reducible exact ih0 _ _)
   | (with_reducible exact LeO.refl _)
   | (with_reducible exact LeO.none _)
   | (with_reducible refine LeO.ite ?_ ?_)
   | (with_reducible refine LeO.bind ?_ (fun _ => ?_))
   | exact ih0 _ _
   | exact LeO.none _
   | refine LeO.ite ?_ ?_
   | refine LeO.bind ?_ (fun _ => ?_)
theorem zaw.calls (k : Nat) (A0 : Option Addr) (c0 : Nat) (l0 : List (S35)) (r : Bool) (w : World) (hr0 : Kd.C k35 w A0 l0.length l0) (hc0 : l0.length ≤ c0) (h : zaw.f k l0 = some r) :
  Calls Try.prog 21 #[.slice A0 l0.length c0] w fun e w' => e = .returned (.bool r) ∧ za1 w w' := by
 have HR0 := zaa.mk hr0
 have HC0 := zaa.mk hc0
 clear hr0 hc0
 have H : (zaw.l0 k l0 0) = some r := h
 clear h
 have H' := zaa.mk H
 clear H
 go_enter Try.func21, Try.ntmps21
 go_wp2
 go_loopg [3] k (fun kq v3 w' => ∃ (x3_1 : Int), v3 = .int .i64 x3_1 ∧ zaa (zaw.l0 kq l0 x3_1 = some r) ∧ zaa (kq ≤ k) ∧ za1 w w')
 case atStart => exact ⟨(0), (by first | rfl | (simp; done) | (simp [*]; done)), H', ⟨Nat.le_refl _⟩, by repeat (first | exact za1.refl _ | apply za1.step)⟩
 case round =>
  clear H'
  obtain ⟨x3_1, rfl, HA, HK1, ⟨m1, rfl⟩⟩ := hrel
  cases gk with
  | zero => exact absurd HA.out (by simp [zaw.l0])
  | succ k1 =>
   have H := HA.out
   clear HA
   simp only [zaw.l0] at H
   by_cases c2 : x3_1 < (l0.length : Int)
   ·
    rw [if_pos c2] at H
    have c2b0 : decide (x3_1 < (l0.length : Int)) = true := decide_eq_true c2
    clear c2
    by_cases c3 : 0 ≤ x3_1
    ·
     rw [if_pos c3] at H
     have c3b0 : decide (0 ≤ x3_1) = true := decide_eq_true c3
     clear c3
     by_cases c4 : ((za3 l0 x3_1).f2) = 0
     ·
      rw [if_pos c4] at H
      have c4b0 : (((za3 l0 x3_1).f2) == 0) = true := beq_iff_eq.mpr c4
      have c4b1 : (((za3 l0 x3_1).f2) != 0) = false := bne_eq_false_iff_eq.mpr c4
      clear c4
      obtain rfl := Option.some.inj H
      have p271 : 0 ≤ (x3_1 : Int) := of_decide_eq_true (by first | (with_reducible assumption) | assumption)
      have q271 : x3_1 < (l0.length : Int) := of_decide_eq_true (by first | (with_reducible assumption) | assumption)
      obtain ⟨ad271, e271, hx271_0, hx271_1, hx271_2⟩ := zcR HR0.out x3_1 p271 q271
      cases e271
      replace p271 := eq_true p271
      replace q271 := eq_true q271
      go_wp2
      go_ret
      exact ⟨by first | rfl | (simp; done) | (simp [*]; done), by repeat (first | exact za1.refl _ | apply za1.step)⟩
     ·
      rw [if_neg c4] at H
      have c4b0 : (((za3 l0 x3_1).f2) == 0) = false := beq_eq_false_iff_ne.mpr c4
      have c4b1 : (((za3 l0 x3_1).f2) != 0) = true := bne_iff_ne.mpr c4
      have H' := zaa.mk H
      clear H
      have p271 : 0 ≤ (x3_1 : Int) := of_decide_eq_true (by first | (with_reducible assumption) | assumption)
      have q271 : x3_1 < (l0.length : Int) := of_decide_eq_true (by first | (with_reducible assumption) | assumption)
      obtain ⟨ad271, e271, hx271_0, hx271_1, hx271_2⟩ := zcR HR0.out x3_1 p271 q271
      cases e271
      replace p271 := eq_true p271
      replace q271 := eq_true q271
      go_wp2
      go_roundg k1
      case measure => have := HK1.out; omega
      case rel => exact ⟨(wrap64 (x3_1 + 1)), (by first | rfl | (simp; done) | (simp [*]; done)), H', ⟨by have := HK1.out; omega⟩, by repeat (first | exact za1.refl _ | apply za1.step)⟩
    ·
     rw [if_neg c3] at H
     exact absurd H s9
   ·
    rw [if_neg c2] at H
    have c2b0 : decide (x3_1 < (l0.length : Int)) = false := decide_eq_false c2
    clear c2
    obtain rfl := Option.some.inj H
    go_wp2
    go_ret
    exact ⟨by first | rfl | (simp; done) | (simp [*]; done), by repeat (first | exact za1.refl _ | apply za1.step)⟩
def zaN.f (a0_0 : Int) (a0_1 : Int) (a0_2 : Int) (a0_3 : ByteArray) (l0_4 : List (S35)) : Option (Int × Int × Int × ByteArray × (List (S35))) := (zaD.f l0_4).bind fun t274 => (some (a0_0, a0_1, a0_2, a0_3, t274))
theorem zaN.calls (a0_0 : Int) (a0_1 : Int) (a0_2 : Int) (a0_3 : ByteArray) (A0_4 : Option Addr) (c0_4 : Nat) (l0_4 : List (S35)) (r1 : Int) (r2 : Int) (r3 : Int) (r4 : ByteArray) (r5 : List (S35)) (w : World) (hr0_4 : Kd.C k35 w A0_4 l0_4.length l0_4) (hc0_4 : l0_4.length ≤ c0_4) (h : zaN.f a0_0 a0_1 a0_2 a0_3 l0_4 = some (r1, r2, r3, r4, r5)) :
  Calls Try.prog 22 #[.agg #[.int .i64 a0_0, .int .i64 a0_1, .int .u64 a0_2, .string a0_3, .slice A0_4 l0_4.length c0_4]] w fun e w' => ∃ v4_ : Value, e = .returned (.agg #[.int .i64 r1, .int .i64 r2, .int .u64 r3, .string r4, v4_]) ∧ Kd.R k35 35 w' w.heap.size (fun _ => True) v4_ r5 ∧ Below w.heap.size w w' := by
 have hu27 := Try.underlying27
 have HR0_4 := zaa.mk hr0_4
 have HC0_4 := zaa.mk hc0_4
 clear hr0_4 hc0_4
 have HB := zaa.mk (Below.refl w.heap.size w)
 have H : ((zaD.f l0_4).bind fun t274 => (some (a0_0, a0_1, a0_2, a0_3, t274))) = some (r1, r2, r3, r4, r5) := h
 clear h
 replace H := Option.bind_eq_some_iff.mp H
 obtain ⟨t274, A20, H⟩ := H
 replace H : (some (a0_0, a0_1, a0_2, a0_3, t274)) = some (r1, r2, r3, r4, r5) := H
 have A2 := zaa.mk A20
 clear A20
 simp only [Option.some.injEq, Prod.mk.injEq] at H
 obtain ⟨rfl, rfl, rfl, rfl, rfl⟩ := H
 go_enter Try.func22, Try.ntmps22
 go_wp2_with (first | ((with_reducible refine zaL (N := 1) rfl ?_); refine zbq (N := 1) (cs := #[.int .i64 a0_0, .int .i64 a0_1, .int .u64 a0_2, .string a0_3, .slice A0_4 l0_4.length c0_4]) (t := 27) ?_; intro gb272 hg w3 hbox hb; have BK272 := zaa.mk (hbox); have GW272 := zaa.mk (gw hg (bl HB.out) : w.heap.size ≤ gb272); have GE272 := GW272; replace HB := zaa.mk (zan (bl HB.out) hb); clear hb hbox hg) | ((with_reducible refine zaL (N := 2) rfl ?_); refine zbq (N := 2) (cs := #[.int .i64 0, .int .i64 0, .int .u64 0, .string (⟨#[]⟩ : ByteArray), .slice none 0 0]) (t := 27) ?_; intro gb273 hg w4 hbox hb; have BK273 := zaa.mk (hbox); have GW273 := zaa.mk (gw hg (bl HB.out) : w.heap.size ≤ gb273); have GE273 := GW273; have NB272_273 := zaa.mk (nl hg BK272.out : gb272 ≠ gb273); have NB273_272 := zaa.mk (ng hg BK272.out : gb273 ≠ gb272); replace BK272 := zaa.mk (zaq (bk BK272.out) hb); replace HB := zaa.mk (zan (bl HB.out) hb); clear hb hbox hg; have hnb5 := NB272_273.out; have hnc5 := NB273_272.out; have hcz6_0 : w4.cell? ⟨gb272, 0, none⟩ = some (.int .i64 a0_0) := (zac BK272.out 0).trans rfl; have hcz6_1 : w4.cell? ⟨gb272, 1, none⟩ = some (.int .i64 a0_1) := (zac BK272.out 1).trans rfl; have hcz6_2 : w4.cell? ⟨gb272, 2, none⟩ = some (.int .u64 a0_2) := (zac BK272.out 2).trans rfl; have hcz6_3 : w4.cell? ⟨gb272, 3, none⟩ = some (.string a0_3) := (zac BK272.out 3).trans rfl; have hcz6_4 : w4.cell? ⟨gb272, 4, none⟩ = some (.slice A0_4 l0_4.length c0_4) := (zac BK272.out 4).trans rfl; have hfz6_0 := zab BK272.out 0; have hfz6_1 := zab BK272.out 1; have hfz6_2 := zab BK272.out 2; have hfz6_3 := zab BK272.out 3; have hfz6_4 := zab BK272.out 4) | ((with_reducible refine za4 (f := 39) rfl ?_); refine zbX (some 5) rfl rfl Try.func39 k9 rfl #[.slice A0_4 l0_4.length c0_4] rfl m9 ?_; (with_reducible refine (zaD.calls _ _ l0_4 t274 _ ?side1 ?side2 A2.out).mono ?_); (case side1 => repeat (first | exact (Kd.zat HR0_4.out HB.out) | (with_reducible refine Kd.zbr ?_ _) | (with_reducible refine Kd.zbx ?_ _) | (with_reducible refine Kd.zbu ?_))); (case side2 => exact HC0_4.out); rintro e w7 ⟨v275, rfl, ho0, hb⟩; refine ⟨_, rfl, ?_⟩; have HO276 := zaa.mk (Kd.zbi ho0 (zaO (bl HB.out))); replace BK272 := zaa.mk (zaq (bk BK272.out) hb); replace BK273 := zaa.mk (zaq (bk BK273.out) hb); replace HB := zaa.mk (zan (bl HB.out) hb); (try clear hb); (try clear hb2); (try clear hk); (try clear hi); (try clear ho0); obtain ⟨Ao8, co8, eo8⟩ := Kd.zbj HO276.out; subst eo8; have hcz9_0 : w7.cell? ⟨gb272, 0, none⟩ = some (.int .i64 a0_0) := (zac BK272.out 0).trans rfl; have hcz9_1 : w7.cell? ⟨gb272, 1, none⟩ = some (.int .i64 a0_1) := (zac BK272.out 1).trans rfl; have hcz9_2 : w7.cell? ⟨gb272, 2, none⟩ = some (.int .u64 a0_2) := (zac BK272.out 2).trans rfl; have hcz9_3 : w7.cell? ⟨gb272, 3, none⟩ = some (.string a0_3) := (zac BK272.out 3).trans rfl; have hcz9_4 : w7.cell? ⟨gb272, 4, none⟩ = some (.slice A0_4 l0_4.length c0_4) := (zac BK272.out 4).trans rfl; have hfz9_0 := zab BK272.out 0; have hfz9_1 := zab BK272.out 1; have hfz9_2 := zab BK272.out 2; have hfz9_3 := zab BK272.out 3; have hfz9_4 := zab BK272.out 4; have hcz10_0 : w7.cell? ⟨gb273, 0, none⟩ = some (.int .i64 0) := (zac BK273.out 0).trans rfl; have hcz10_1 : w7.cell? ⟨gb273, 1, none⟩ = some (.int .i64 0) := (zac BK273.out 1).trans rfl; have hcz10_2 : w7.cell? ⟨gb273, 2, none⟩ = some (.int .u64 0) := (zac BK273.out 2).trans rfl; have hcz10_3 : w7.cell? ⟨gb273, 3, none⟩ = some (.string (⟨#[]⟩ : ByteArray)) := (zac BK273.out 3).trans rfl; have hcz10_4 : w7.cell? ⟨gb273, 4, none⟩ = some (.slice none 0 0) := (zac BK273.out 4).trans rfl; have hfz10_0 := zab BK273.out 0; have hfz10_1 := zab BK273.out 1; have hfz10_2 := zab BK273.out 2; have hfz10_3 := zab BK273.out 3; have hfz10_4 := zab BK273.out 4))
 refine bodyPost_ret (results_cell_row rfl _ _ gb273 27 #[.int .i64 a0_0, .int .i64 a0_1, .int .u64 a0_2, .string a0_3, .slice Ao8 t274.length co8] (0, 0) _ rfl (bp BK273.out) Try.underlying27 rfl k9) rfl ?_
 exact ⟨_, by first | rfl | (simp [zaz, zaA] <;> rfl) | (simp [*, zaz, zaA] <;> rfl), by (with_reducible repeat (first | apply Kd.zbt | apply Kd.zbA | apply Kd.zbN)); exact Kd.za0 (Kd.R_far (p := ⟨gb273, 4, none⟩) (Kd.R_far (p := ⟨gb273, 3, none⟩) (Kd.R_far (p := ⟨gb273, 2, none⟩) (Kd.R_far (p := ⟨gb273, 1, none⟩) (Kd.R_far (p := ⟨gb273, 0, none⟩) (Kd.R_far (p := ⟨gb272, 4, none⟩) (Kd.zbJ (Kd.zbJ HO276.out BK272.out d9) BK273.out d9) (fun _ hk => hk.1.2) (.slice Ao8 t274.length co8)) (fun _ hk => hk.2) (.int .i64 a0_0)) (fun _ hk => hk.2) (.int .i64 a0_1)) (fun _ hk => hk.2) (.int .u64 a0_2)) (fun _ hk => hk.2) (.string a0_3)) (fun _ hk => hk.2) (.slice Ao8 t274.length co8)) (fun _ hk => trivial), bl HB.out⟩
def zaC.j0 : Nat → Int → Int → Bool → Int → Int → Int → ByteArray → List (S35) → Int → Int → Int → ByteArray → List (S35) → Option (Bool)
 | 0, _, _, _, _, _, _, _, _, _, _, _, _, _ => none
 | k + 1, x1, x3, x14, x278000, x278001, x278002, x278003, x278004, x279000, x279001, x279002, x279003, x279004 => if x14 = true then (if x1 = x3 then ((zaj.f k x278000 x278001 x278002 x278003 x278004 0 0 0 (⟨#[]⟩ : ByteArray) ([] : List (S35))).bind fun t279 => (if t279 = true then ((zaj.f k x279000 x279001 x279002 x279003 x279004 0 0 0 (⟨#[]⟩ : ByteArray) ([] : List (S35))).bind fun t280 => (some t280)) else (some false))) else (some false)) else ((zaN.f x278000 x278001 x278002 x278003 x278004).bind fun bt281 => ((zaj.f k bt281.1 bt281.2.1 bt281.2.2.1 bt281.2.2.2.1 bt281.2.2.2.2 x279000 x279001 x279002 x279003 x279004).bind fun t288 => (some t288)))
def zaC.f (k : Nat) (a0_0 : Int) (a0_1 : Int) (a0_2 : Int) (a0_3 : ByteArray) (l0_4 : List (S35)) (a1 : Int) (a2_0 : Int) (a2_1 : Int) (a2_2 : Int) (a2_3 : ByteArray) (l2_4 : List (S35)) (a3 : Int) : Option (Bool) := if a1 = 0 then (zaC.j0 k a1 a3 (a3 != 0) a0_0 a0_1 a0_2 a0_3 l0_4 a2_0 a2_1 a2_2 a2_3 l2_4) else (zaC.j0 k a1 a3 true a0_0 a0_1 a0_2 a0_3 l0_4 a2_0 a2_1 a2_2 a2_3 l2_4)
theorem zaC.zbM : ∀ k, (∀ y0 y1 y2 y3 y4 y5 y6 y7 y8 y9 y10 y11 y12, LeO (zaC.j0 k y0 y1 y2 y3 y4 y5 y6 y7 y8 y9 y10 y11 y12) (zaC.j0 (k + 1) y0 y1 y2 y3 y4 y5 y6 y7 y8 y9 y10 y11 y12))
 | 0 => fun _ _ _ _ _ _ _ _ _ _ _ _ _ r h => by simp [zaC.j0] at h
 | k + 1 => by
  have ih0 := zaC.zbM k
  ·
   intro y0 y1 y2 y3 y4 y5 y6 y7 y8 y9 y10 y11 y12
   unfold zaC.j0
   repeat' first
   | (with_reducible exact ih0 _ _ _ _ _ _ _ _ _ _ _ _ _)
   | (with_reducible exact zaj.mono _ _ _ _ _ _ _ _ _ _ _)
   | (with_reducible exact LeO.refl _)
   | (with_reducible exact LeO.none _)
   | (with_reducible refine LeO.ite ?_ ?_)
   | (with_reducible refine LeO.bind ?_ (fun _ => ?_))
   | exact ih0 _ _ _ _ _ _ _ _ _ _ _ _ _
   | exact zaj.mono _ _ _ _ _ _ _ _ _ _ _
   | exact LeO.none _
   | refine LeO.ite ?_ ?_
   | refine LeO.bind ?_ (fun _ => ?_)
theorem zaC.mono : ∀ a0 a1 a2 a3 a4 a5 a6 a7 a8 a9 a10 a11 k, LeO (zaC.f k a0 a1 a2 a3 a4 a5 a6 a7 a8 a9 a10 a11) (zaC.f (k + 1) a0 a1 a2 a3 a4 a5 a6 a7 a8 a9 a10 a11) := by
 intro a0 a1 a2 a3 a4 a5 a6 a7 a8 a9 a10 a11 k
 have ih0 := zaC.zbM k
 unfold zaC.f
 repeat' first
   | (with_reducible exact ih0 _ _ _ _ _ _ _ _ _ _ _ _ _)
   | (with_reducible exact zaj.mono _ _ _ _ _ _ _ _ _ _ _)
   | (with_reducible exact LeO.refl _)
   | (with_reducible exact LeO.none _)
   | (with_reducible refine LeO.ite ?_ ?_)
   | (with_reducible refine LeO.bind ?_ (fun _ => ?_))
   | exact ih0 _ _ _ _ _ _ _ _ _ _ _ _ _
   | exact zaj.mono _ _ _ _ _ _ _ _ _ _ _
   | exact LeO.none _
   | refine LeO.ite ?_ ?_
   | refine LeO.bind ?_ (fun _ => ?_)
theorem zaC.calls (k : Nat) (a0_0 : Int) (a0_1 : Int) (a0_2 : Int) (a0_3 : ByteArray) (A0_4 : Option Addr) (c0_4 : Nat) (l0_4 : List (S35)) (a1 : Int) (a2_0 : Int) (a2_1 : Int) (a2_2 : Int) (a2_3 : ByteArray) (A2_4 : Option Addr) (c2_4 : Nat) (l2_4 : List (S35)) (a3 : Int) (r : Bool) (w : World) (hr0_4 : Kd.C k35 w A0_4 l0_4.length l0_4) (hc0_4 : l0_4.length ≤ c0_4) (hr2_4 : Kd.C k35 w A2_4 l2_4.length l2_4) (hc2_4 : l2_4.length ≤ c2_4) (h : zaC.f k a0_0 a0_1 a0_2 a0_3 l0_4 a1 a2_0 a2_1 a2_2 a2_3 l2_4 a3 = some r) :
  Calls Try.prog 24 #[.agg #[.int .i64 a0_0, .int .i64 a0_1, .int .u64 a0_2, .string a0_3, .slice A0_4 l0_4.length c0_4], .int .i64 a1, .agg #[.int .i64 a2_0, .int .i64 a2_1, .int .u64 a2_2, .string a2_3, .slice A2_4 l2_4.length c2_4], .int .i64 a3] w fun e w' => e = .returned (.bool r) ∧ Below w.heap.size w w' := by
 have hu27 := Try.underlying27
 have HR0_4 := zaa.mk hr0_4
 have HC0_4 := zaa.mk hc0_4
 clear hr0_4 hc0_4
 have HR2_4 := zaa.mk hr2_4
 have HC2_4 := zaa.mk hc2_4
 clear hr2_4 hc2_4
 have HB := zaa.mk (Below.refl w.heap.size w)
 have H : (if a1 = 0 then (zaC.j0 k a1 a3 (a3 != 0) a0_0 a0_1 a0_2 a0_3 l0_4 a2_0 a2_1 a2_2 a2_3 l2_4) else (zaC.j0 k a1 a3 true a0_0 a0_1 a0_2 a0_3 l0_4 a2_0 a2_1 a2_2 a2_3 l2_4)) = some r := h
 clear h
 have HC5 := zaa.mk H
 clear H
 go_enter Try.func24, Try.ntmps24
 go_upto_region 1 with (first | ((with_reducible refine zaL (N := 4) rfl ?_); refine zbq (N := 4) (cs := #[.int .i64 a0_0, .int .i64 a0_1, .int .u64 a0_2, .string a0_3, .slice A0_4 l0_4.length c0_4]) (t := 27) ?_; intro gb277 hg w6 hbox hb; have BK277 := zaa.mk (hbox); have GW277 := zaa.mk (gw hg (bl HB.out) : w.heap.size ≤ gb277); have GE277 := GW277; replace HB := zaa.mk (zan (bl HB.out) hb); clear hb hbox hg) | ((with_reducible refine zaL (N := 6) rfl ?_); refine zbq (N := 6) (cs := #[.int .i64 a2_0, .int .i64 a2_1, .int .u64 a2_2, .string a2_3, .slice A2_4 l2_4.length c2_4]) (t := 27) ?_; intro gb278 hg w7 hbox hb; have BK278 := zaa.mk (hbox); have GW278 := zaa.mk (gw hg (bl HB.out) : w.heap.size ≤ gb278); have GE278 := GW278; have NB277_278 := zaa.mk (nl hg BK277.out : gb277 ≠ gb278); have NB278_277 := zaa.mk (ng hg BK277.out : gb278 ≠ gb277); replace BK277 := zaa.mk (zaq (bk BK277.out) hb); replace HB := zaa.mk (zan (bl HB.out) hb); clear hb hbox hg))
 (try simp only [Act.put, List.setIfInBounds_toArray, List.set_cons_zero, List.set_cons_succ])
 go_cut [14] (fun v14 wc => ∃ (kq : Nat) (x14_4 : Bool), v14 = .bool x14_4 ∧ zaa (zaC.j0 kq a1 a3 x14_4 a0_0 a0_1 a0_2 a0_3 l0_4 a2_0 a2_1 a2_2 a2_3 l2_4 = some r) ∧ zaa (kq ≤ k) ∧ zaa (wc.heap[gb277]? = some (.cells #[.int .i64 a0_0, .int .i64 a0_1, .int .u64 a0_2, .string a0_3, (.slice A0_4 l0_4.length c0_4)] 27 (0, 0))) ∧ zaa (wc.heap[gb278]? = some (.cells #[.int .i64 a2_0, .int .i64 a2_1, .int .u64 a2_2, .string a2_3, (.slice A2_4 l2_4.length c2_4)] 27 (0, 0))) ∧ zaa (Below w.heap.size w wc))
 case first =>
  have H := HC5.out
  clear HC5
  by_cases c8 : a1 = 0
  ·
   rw [if_pos c8] at H
   have c8b0 : (a1 == 0) = true := beq_iff_eq.mpr c8
   have c8b1 : (a1 != 0) = false := bne_eq_false_iff_eq.mpr c8
   clear c8
   (first | rw [c8b0] | (simp only [i64_w, i32_w]; rw [c8b0]) | skip)
   have H' := zaa.mk H
   clear H
   go_wp2
   go_meet
   case rel => exact ⟨_, ((a3 != 0)), (by first | rfl | (simp; done) | (simp [*]; done)), H', ⟨by first | omega | exact Nat.le_refl _⟩, ⟨bk BK277.out⟩, ⟨bk BK278.out⟩, ⟨bl HB.out⟩⟩
  ·
   rw [if_neg c8] at H
   have c8b0 : (a1 == 0) = false := beq_eq_false_iff_ne.mpr c8
   have c8b1 : (a1 != 0) = true := bne_iff_ne.mpr c8
   (first | rw [c8b0] | (simp only [i64_w, i32_w]; rw [c8b0]) | skip)
   have H' := zaa.mk H
   clear H
   go_wp2
   go_meet
   case rel => exact ⟨_, (true), (by first | rfl | (simp; done) | (simp [*]; done)), H', ⟨by first | omega | exact Nat.le_refl _⟩, ⟨bk BK277.out⟩, ⟨bk BK278.out⟩, ⟨bl HB.out⟩⟩
 case rest =>
  clear HC5
  try clear c2
  try clear p2
  try clear c8
  try clear c8b0
  try clear c8b1
  obtain ⟨kq, x14_4, rfl, HA, HJ4, BK277, BK278, HB⟩ := hcut
  cases kq with
  | zero => exact absurd HA.out (by simp [zaC.j0])
  | succ kj4 =>
   have H := HA.out
   clear HA
   simp only [zaC.j0] at H
   by_cases c9 : x14_4 = true
   ·
    subst c9
    have H1 : (if a1 = a3 then ((zaj.f kj4 a0_0 a0_1 a0_2 a0_3 l0_4 0 0 0 (⟨#[]⟩ : ByteArray) ([] : List (S35))).bind fun t279 => (if t279 = true then ((zaj.f kj4 a2_0 a2_1 a2_2 a2_3 l2_4 0 0 0 (⟨#[]⟩ : ByteArray) ([] : List (S35))).bind fun t280 => (some t280)) else (some false))) else (some false)) = some r := by rw [if_pos rfl] at H; exact H
    clear H
    have H := H1
    clear H1
    by_cases c10 : a1 = a3
    ·
     rw [if_pos c10] at H
     have c10b0 : (a1 == a3) = true := beq_iff_eq.mpr c10
     have c10b1 : (a1 != a3) = false := bne_eq_false_iff_eq.mpr c10
     clear c10
     replace H := Option.bind_eq_some_iff.mp H
     obtain ⟨t279, A110, H⟩ := H
     replace H : (if t279 = true then ((zaj.f kj4 a2_0 a2_1 a2_2 a2_3 l2_4 0 0 0 (⟨#[]⟩ : ByteArray) ([] : List (S35))).bind fun t280 => (some t280)) else (some false)) = some r := H
     have A11 := zaa.mk A110
     clear A110
     by_cases c12 : t279 = true
     ·
      subst c12
      have H1 : ((zaj.f kj4 a2_0 a2_1 a2_2 a2_3 l2_4 0 0 0 (⟨#[]⟩ : ByteArray) ([] : List (S35))).bind fun t280 => (some t280)) = some r := by rw [if_pos rfl] at H; exact H
      clear H
      have H := H1
      clear H1
      replace H := Option.bind_eq_some_iff.mp H
      obtain ⟨t280, A130, H⟩ := H
      replace H : (some t280) = some r := H
      have A13 := zaa.mk A130
      clear A130
      obtain rfl := Option.some.inj H
      have hnb14 := NB277_278.out
      have hnc14 := NB278_277.out
      have hcz15_0 : wc.cell? ⟨gb277, 0, none⟩ = some (.int .i64 a0_0) := (zac BK277.out 0).trans rfl
      have hcz15_1 : wc.cell? ⟨gb277, 1, none⟩ = some (.int .i64 a0_1) := (zac BK277.out 1).trans rfl
      have hcz15_2 : wc.cell? ⟨gb277, 2, none⟩ = some (.int .u64 a0_2) := (zac BK277.out 2).trans rfl
      have hcz15_3 : wc.cell? ⟨gb277, 3, none⟩ = some (.string a0_3) := (zac BK277.out 3).trans rfl
      have hcz15_4 : wc.cell? ⟨gb277, 4, none⟩ = some (.slice A0_4 l0_4.length c0_4) := (zac BK277.out 4).trans rfl
      have hfz15_0 := zab BK277.out 0
      have hfz15_1 := zab BK277.out 1
      have hfz15_2 := zab BK277.out 2
      have hfz15_3 := zab BK277.out 3
      have hfz15_4 := zab BK277.out 4
      have Tk1_ := zaa.mk True.intro
      have Tk2_ := zaa.mk True.intro
      go_wp2_with (first | (clear Tk1_; go_at_call 14; (refine (zaj.calls kj4 a0_0 a0_1 a0_2 a0_3 _ _ l0_4 0 0 0 (⟨#[]⟩ : ByteArray) _ _ ([] : List (S35)) true _ ?side1 ?side2 ?side3 ?side4 A11.out).mono ?_); (case side1 => repeat (first | exact (Kd.zat HR0_4.out HB.out) | (with_reducible refine Kd.zbr ?_ _) | (with_reducible refine Kd.zbx ?_ _) | (with_reducible refine Kd.zbu ?_))); (case side2 => exact HC0_4.out); (case side3 => exact Kd.C_nil _ _); (case side4 => exact Nat.le_refl _); rintro e w16 ⟨rfl, hb⟩; replace BK277 := zaa.mk (zaq (bk BK277.out) hb); replace BK278 := zaa.mk (zaq (bk BK278.out) hb); replace HB := zaa.mk (zan (bl HB.out) hb); (try clear hb); (try clear hb2); (try clear hk); (try clear hi); have hcz17_0 : w16.cell? ⟨gb278, 0, none⟩ = some (.int .i64 a2_0) := (zac BK278.out 0).trans rfl; have hcz17_1 : w16.cell? ⟨gb278, 1, none⟩ = some (.int .i64 a2_1) := (zac BK278.out 1).trans rfl; have hcz17_2 : w16.cell? ⟨gb278, 2, none⟩ = some (.int .u64 a2_2) := (zac BK278.out 2).trans rfl; have hcz17_3 : w16.cell? ⟨gb278, 3, none⟩ = some (.string a2_3) := (zac BK278.out 3).trans rfl; have hcz17_4 : w16.cell? ⟨gb278, 4, none⟩ = some (.slice A2_4 l2_4.length c2_4) := (zac BK278.out 4).trans rfl; have hfz17_0 := zab BK278.out 0; have hfz17_1 := zab BK278.out 1; have hfz17_2 := zab BK278.out 2; have hfz17_3 := zab BK278.out 3; have hfz17_4 := zab BK278.out 4) | (clear Tk2_; go_at_call 14; (refine (zaj.calls kj4 a2_0 a2_1 a2_2 a2_3 _ _ l2_4 0 0 0 (⟨#[]⟩ : ByteArray) _ _ ([] : List (S35)) t280 _ ?side1 ?side2 ?side3 ?side4 A13.out).mono ?_); (case side1 => repeat (first | exact (Kd.zat HR2_4.out HB.out) | (with_reducible refine Kd.zbr ?_ _) | (with_reducible refine Kd.zbx ?_ _) | (with_reducible refine Kd.zbu ?_))); (case side2 => exact HC2_4.out); (case side3 => exact Kd.C_nil _ _); (case side4 => exact Nat.le_refl _); rintro e w18 ⟨rfl, hb⟩; replace BK277 := zaa.mk (zaq (bk BK277.out) hb); replace BK278 := zaa.mk (zaq (bk BK278.out) hb); replace HB := zaa.mk (zan (bl HB.out) hb); (try clear hb); (try clear hb2); (try clear hk); (try clear hi)))
      go_ret
      exact ⟨by first | rfl | (simp [zaz, zaA] <;> rfl) | (simp [*, zaz, zaA] <;> rfl), bl HB.out⟩
     ·
      replace c12 := Bool.eq_false_iff.mpr c12
      subst c12
      have H1 : (some false) = some r := by rw [if_neg (show ¬ (false = true) by decide)] at H; exact H
      clear H
      have H := H1
      clear H1
      obtain rfl := Option.some.inj H
      have hnb19 := NB277_278.out
      have hnc19 := NB278_277.out
      have hcz20_0 : wc.cell? ⟨gb277, 0, none⟩ = some (.int .i64 a0_0) := (zac BK277.out 0).trans rfl
      have hcz20_1 : wc.cell? ⟨gb277, 1, none⟩ = some (.int .i64 a0_1) := (zac BK277.out 1).trans rfl
      have hcz20_2 : wc.cell? ⟨gb277, 2, none⟩ = some (.int .u64 a0_2) := (zac BK277.out 2).trans rfl
      have hcz20_3 : wc.cell? ⟨gb277, 3, none⟩ = some (.string a0_3) := (zac BK277.out 3).trans rfl
      have hcz20_4 : wc.cell? ⟨gb277, 4, none⟩ = some (.slice A0_4 l0_4.length c0_4) := (zac BK277.out 4).trans rfl
      have hfz20_0 := zab BK277.out 0
      have hfz20_1 := zab BK277.out 1
      have hfz20_2 := zab BK277.out 2
      have hfz20_3 := zab BK277.out 3
      have hfz20_4 := zab BK277.out 4
      go_wp2_with (first | (go_at_call 14; (refine (zaj.calls kj4 a0_0 a0_1 a0_2 a0_3 _ _ l0_4 0 0 0 (⟨#[]⟩ : ByteArray) _ _ ([] : List (S35)) false _ ?side1 ?side2 ?side3 ?side4 A11.out).mono ?_); (case side1 => repeat (first | exact (Kd.zat HR0_4.out HB.out) | (with_reducible refine Kd.zbr ?_ _) | (with_reducible refine Kd.zbx ?_ _) | (with_reducible refine Kd.zbu ?_))); (case side2 => exact HC0_4.out); (case side3 => exact Kd.C_nil _ _); (case side4 => exact Nat.le_refl _); rintro e w21 ⟨rfl, hb⟩; replace BK277 := zaa.mk (zaq (bk BK277.out) hb); replace BK278 := zaa.mk (zaq (bk BK278.out) hb); replace HB := zaa.mk (zan (bl HB.out) hb); (try clear hb); (try clear hb2); (try clear hk); (try clear hi)))
      go_ret
      exact ⟨by first | rfl | (simp [zaz, zaA] <;> rfl) | (simp [*, zaz, zaA] <;> rfl), bl HB.out⟩
    ·
     rw [if_neg c10] at H
     have c10b0 : (a1 == a3) = false := beq_eq_false_iff_ne.mpr c10
     have c10b1 : (a1 != a3) = true := bne_iff_ne.mpr c10
     obtain rfl := Option.some.inj H
     go_wp2
     go_ret
     exact ⟨by first | rfl | (simp [zaz, zaA] <;> rfl) | (simp [*, zaz, zaA] <;> rfl), bl HB.out⟩
   ·
    replace c9 := Bool.eq_false_iff.mpr c9
    subst c9
    have H1 : ((zaN.f a0_0 a0_1 a0_2 a0_3 l0_4).bind fun bt281 => ((zaj.f kj4 bt281.1 bt281.2.1 bt281.2.2.1 bt281.2.2.2.1 bt281.2.2.2.2 a2_0 a2_1 a2_2 a2_3 l2_4).bind fun t288 => (some t288))) = some r := by rw [if_neg (show ¬ (false = true) by decide)] at H; exact H
    clear H
    have H := H1
    clear H1
    replace H := Option.bind_eq_some_iff.mp H
    obtain ⟨⟨t281, t282, t283, t284, t285⟩, A220, H⟩ := H
    replace H : ((zaj.f kj4 t281 t282 t283 t284 t285 a2_0 a2_1 a2_2 a2_3 l2_4).bind fun t288 => (some t288)) = some r := H
    have A22 := zaa.mk A220
    clear A220
    replace H := Option.bind_eq_some_iff.mp H
    obtain ⟨t288, A230, H⟩ := H
    replace H : (some t288) = some r := H
    have A23 := zaa.mk A230
    clear A230
    obtain rfl := Option.some.inj H
    try go_wp2
    have n0_ := zaa.mk (zbh BK277.out)
    have n1_ := zaa.mk (zbh BK278.out)
    have n2_ := zaa.mk (zb8 HB.out)
    clear BK277
    clear BK278
    clear HB
    have BK277 := n0_
    have BK278 := n1_
    have HB := n2_
    clear n0_ n1_ n2_
    refine ziC (n := 5) (S := fun w' => w'.cell? ⟨gb277, 0, none⟩ = some (.int .i64 a0_0) ∧ w'.cell? ⟨gb277, 1, none⟩ = some (.int .i64 a0_1) ∧ w'.cell? ⟨gb277, 2, none⟩ = some (.int .u64 a0_2) ∧ w'.cell? ⟨gb277, 3, none⟩ = some (.string a0_3) ∧ w'.cell? ⟨gb277, 4, none⟩ = some (.slice A0_4 l0_4.length c0_4) ∧ w'.cell? ⟨gb278, 0, none⟩ = some (.int .i64 a2_0) ∧ w'.cell? ⟨gb278, 1, none⟩ = some (.int .i64 a2_1) ∧ w'.cell? ⟨gb278, 2, none⟩ = some (.int .u64 a2_2) ∧ w'.cell? ⟨gb278, 3, none⟩ = some (.string a2_3) ∧ w'.cell? ⟨gb278, 4, none⟩ = some (.slice A2_4 l2_4.length c2_4)) (ds := []) #[false, false, false, false, false] k9 rfl rfl ⟨(zac BK277.out 0).trans rfl, (zac BK277.out 1).trans rfl, (zac BK277.out 2).trans rfl, (zac BK277.out 3).trans rfl, (zac BK277.out 4).trans rfl, (zac BK278.out 0).trans rfl, (zac BK278.out 1).trans rfl, (zac BK278.out 2).trans rfl, (zac BK278.out 3).trans rfl, (zac BK278.out 4).trans rfl⟩ (fun hHeld => ?_)
    generalize wc.drew = w24 at BK277 BK278 HB hHeld ⊢
    refine take_ (i := 0) (N := some 28) (v := ?_) (a' := ?_) #[true, false, false, false, false] rfl rfl k9 (fun _ _ _ h => h) (Or.inl ⟨by rfl, ?_⟩) hHeld ?_ ?_
    rotate_left
    ·
     rintro w' ⟨s0, s1, s2, s3, s4, s5, s6, s7, s8, s9⟩
     go_simp
     with_reducible rfl
    rotate_left
    ·
     simp only [Act.put, List.setIfInBounds_toArray, List.set_cons_zero, List.set_cons_succ, i64_w, i32_w]
     rfl
    refine take_ (i := 2) (N := some 30) (v := ?_) (a' := ?_) #[true, false, true, false, false] rfl rfl k9 (fun _ _ _ h => h) (Or.inl ⟨by rfl, ?_⟩) hHeld ?_ ?_
    rotate_left
    ·
     rintro w' ⟨s0, s1, s2, s3, s4, s5, s6, s7, s8, s9⟩
     go_simp
     with_reducible rfl
    rotate_left
    ·
     simp only [Act.put, List.setIfInBounds_toArray, List.set_cons_zero, List.set_cons_succ, i64_w, i32_w]
     rfl
    refine one_ (i := 1) (N := some 29) #[true, true, true, false, false] rfl rfl k9 d9 (fun K hK => ?_)
    refine goes_ Try.func22 k9 rfl #[.agg #[.int .i64 a0_0, .int .i64 a0_1, .int .u64 a0_2, .string a0_3, .slice A0_4 l0_4.length c0_4]] (by rfl) rfl rfl m9 ?_
    with_reducible refine (zaN.calls a0_0 a0_1 a0_2 a0_3 _ _ l0_4 t281 t282 t283 t284 t285 _ ?side1 ?side2 A22.out).mono ?_
    (case side1 => repeat (first | exact (Kd.zat HR0_4.out HB.out) | (with_reducible refine Kd.zbr ?_ _) | (with_reducible refine Kd.zbx ?_ _) | (with_reducible refine Kd.zbu ?_)))
    (case side2 => exact HC0_4.out)
    rintro e w25 ⟨v286, rfl, ho0, hb⟩
    refine ⟨_, rfl, ?_⟩
    have n0_ := zaa.mk (Kd.zbi ho0 (zaO (bl HB.out)))
    have n1_ := zaa.mk (zaq (bk BK277.out) hb)
    have n2_ := zaa.mk (zaq (bk BK278.out) hb)
    have n3_ := zaa.mk (zan (bl HB.out) hb)
    clear BK277
    clear BK278
    clear HB
    have HO287 := n0_
    have BK277 := n1_
    have BK278 := n2_
    have HB := n3_
    clear n0_ n1_ n2_ n3_
    (try clear hb)
    (try clear hb2)
    (try clear hk)
    (try clear hi)
    (try clear ho0)
    obtain ⟨Ao26, co26, eo26⟩ := Kd.zbj HO287.out
    (first | subst eo26 | (injection eo26 with f1_ f2_ f3_; have f4_ := f1_.symm; have f5_ := f3_.symm; clear f1_ f2_ f3_; subst f4_; subst f5_))
    refine hK.out _ _ ⟨(zac BK277.out 0).trans rfl, (zac BK277.out 1).trans rfl, (zac BK277.out 2).trans rfl, (zac BK277.out 3).trans rfl, (zac BK277.out 4).trans rfl, (zac BK278.out 0).trans rfl, (zac BK278.out 1).trans rfl, (zac BK278.out 2).trans rfl, (zac BK278.out 3).trans rfl, (zac BK278.out 4).trans rfl⟩ (fun hHeld => ?_)
    clear hK K
    refine norm_ (a' := ?_) ?_ ?_
    rotate_left
    ·
     show Act.put _ (some 29) _ = _
     simp only [Act.put, List.setIfInBounds_toArray, List.set_cons_zero, List.set_cons_succ, i64_w, i32_w]
     rfl
    refine one_ (i := 3) (N := some 31) #[true, true, true, true, false] rfl rfl k9 d9 (fun K hK => ?_)
    refine goes_ Try.func14 k9 rfl #[.agg #[.int .i64 t281, .int .i64 t282, .int .u64 t283, .string t284, .slice Ao26 t285.length co26], .agg #[.int .i64 a2_0, .int .i64 a2_1, .int .u64 a2_2, .string a2_3, .slice A2_4 l2_4.length c2_4]] (by rfl) rfl rfl m9 ?_
    with_reducible refine (zaj.calls kj4 t281 t282 t283 t284 _ _ t285 a2_0 a2_1 a2_2 a2_3 _ _ l2_4 t288 _ ?side1 ?side2 ?side3 ?side4 A23.out).mono ?_
    (case side1 => repeat (first | exact (Kd.zbn HO287.out).2.2 | (with_reducible refine Kd.zbr ?_ _) | (with_reducible refine Kd.zbx ?_ _) | (with_reducible refine Kd.zbu ?_)))
    (case side2 => exact (Kd.zbn HO287.out).2.1)
    (case side3 => repeat (first | exact (Kd.zat HR2_4.out HB.out) | (with_reducible refine Kd.zbr ?_ _) | (with_reducible refine Kd.zbx ?_ _) | (with_reducible refine Kd.zbu ?_)))
    (case side4 => exact HC2_4.out)
    rintro e w27 ⟨rfl, hb⟩
    refine ⟨_, rfl, ?_⟩
    have n0_ := zaa.mk (Kd.zbC (rk HO287.out) hb)
    have n1_ := zaa.mk (zaq (bk BK277.out) hb)
    have n2_ := zaa.mk (zaq (bk BK278.out) hb)
    have n3_ := zaa.mk (zan (bl HB.out) hb)
    clear HO287
    clear BK277
    clear BK278
    clear HB
    have HO287 := n0_
    have BK277 := n1_
    have BK278 := n2_
    have HB := n3_
    clear n0_ n1_ n2_ n3_
    (try clear hb)
    (try clear hb2)
    (try clear hk)
    (try clear hi)
    refine hK.out _ _ ⟨(zac BK277.out 0).trans rfl, (zac BK277.out 1).trans rfl, (zac BK277.out 2).trans rfl, (zac BK277.out 3).trans rfl, (zac BK277.out 4).trans rfl, (zac BK278.out 0).trans rfl, (zac BK278.out 1).trans rfl, (zac BK278.out 2).trans rfl, (zac BK278.out 3).trans rfl, (zac BK278.out 4).trans rfl⟩ (fun hHeld => ?_)
    clear hK K
    refine norm_ (a' := ?_) ?_ ?_
    rotate_left
    ·
     show Act.put _ (some 31) _ = _
     simp only [Act.put, List.setIfInBounds_toArray, List.set_cons_zero, List.set_cons_succ, i64_w, i32_w]
     rfl
    refine pure_ (i := 4) (N := some 8) (v := ?_) (a' := ?_) #[true, true, true, true, true] rfl rfl k9 (fun _ _ _ h => h) (Or.inl ⟨by rfl, ?_⟩) ?_ ?_
    rotate_left
    ·
     intro w'
     go_simp
     with_reducible rfl
    rotate_left
    ·
     simp only [Act.put, List.setIfInBounds_toArray, List.set_cons_zero, List.set_cons_succ, i64_w, i32_w]
     rfl
    refine done_ k9 ?_
    try go_wp2
    go_ret
    exact ⟨by first | rfl | (simp [zaz, zaA] <;> rfl) | (simp [*, zaz, zaA] <;> rfl), bl HB.out⟩
def chaperonlaw16_CoerceShort.f (k : Nat) (l0 : List (S64)) (a1_0 : Int) (a1_1 : Int) (a1_2 : Int) (a1_3 : ByteArray) (l1_4 : List (S35)) (a2 : ByteArray) (a3 : Int) (a4_0 : Int) (a4_1 : Int) (a4_2 : Int) (a4_3 : ByteArray) (l4_4 : List (S35)) : Option Bool := (zaE.f k).bind fun bF4 => (zah.f k l0).bind fun bF6 => (if bF6 = true then some (bF4) else (zak.f k a4_0 a4_1 a4_2 a4_3 l4_4).bind fun bF8 => (if bF8 = true then some (bF4) else (zak.f k a1_0 a1_1 a1_2 a1_3 l1_4).bind fun bF10 => (if bF10 = true then some (bF4) else (if (decide ((a2.size : Int) > 60)) = true then some (bF4) else (zaw.f k l1_4).bind fun bF12 => (if bF12 = true then some (bF4) else (zbe.f k l0 a1_0 a1_1 a1_2 a1_3 l1_4 a2 a3 a4_0 a4_1 a4_2 a4_3 l4_4 false).bind fun bF19 => (zaN.f a1_0 a1_1 a1_2 a1_3 l1_4).bind fun bF26 => (zaN.f a4_0 a4_1 a4_2 a4_3 l4_4).bind fun bF32 => (zbe.f k l0 bF26.1 bF26.2.1 bF26.2.2.1 bF26.2.2.2.1 bF26.2.2.2.2 a2 a3 bF32.1 bF32.2.1 bF32.2.2.1 bF32.2.2.2.1 bF32.2.2.2.2 true).bind fun bF39 => (zbk.f k l0 a1_0 a1_1 a1_2 a1_3 l1_4 a2 a4_0 a4_1 a4_2 a4_3 l4_4 false).bind fun bF47 => (zaN.f a1_0 a1_1 a1_2 a1_3 l1_4).bind fun bF54 => (zaN.f a4_0 a4_1 a4_2 a4_3 l4_4).bind fun bF60 => (zbk.f k l0 bF54.1 bF54.2.1 bF54.2.2.1 bF54.2.2.2.1 bF54.2.2.2.2 a2 bF60.1 bF60.2.1 bF60.2.2.1 bF60.2.2.2.1 bF60.2.2.2.2 true).bind fun bF67 => (if bF4 = true then (zaC.f k bF19.1 bF19.2.1 bF19.2.2.1 bF19.2.2.2.1 bF19.2.2.2.2.1 bF19.2.2.2.2.2 bF39.1 bF39.2.1 bF39.2.2.1 bF39.2.2.2.1 bF39.2.2.2.2.1 bF39.2.2.2.2.2).bind fun bF70 => (if bF70 = true then (zaC.f k bF47.1 bF47.2.1 bF47.2.2.1 bF47.2.2.2.1 bF47.2.2.2.2.1 bF47.2.2.2.2.2 bF67.1 bF67.2.1 bF67.2.2.1 bF67.2.2.2.1 bF67.2.2.2.2.1 bF67.2.2.2.2.2).bind fun bF72 => some (bF72) else none) else none))))))
theorem chaperonlaw16_CoerceShort.mono : ∀ l0 a1_0 a1_1 a1_2 a1_3 l1_4 a2 a3 a4_0 a4_1 a4_2 a4_3 l4_4 k, LeO (chaperonlaw16_CoerceShort.f k l0 a1_0 a1_1 a1_2 a1_3 l1_4 a2 a3 a4_0 a4_1 a4_2 a4_3 l4_4) (chaperonlaw16_CoerceShort.f (k + 1) l0 a1_0 a1_1 a1_2 a1_3 l1_4 a2 a3 a4_0 a4_1 a4_2 a4_3 l4_4) := by
 intro l0 a1_0 a1_1 a1_2 a1_3 l1_4 a2 a3 a4_0 a4_1 a4_2 a4_3 l4_4 k
 unfold chaperonlaw16_CoerceShort.f
 repeat' first
  | (with_reducible exact zah.mono _ _)
  | (with_reducible exact zak.mono _ _ _ _ _ _)
  | (with_reducible exact zaE.mono _)
  | (with_reducible exact zaC.mono _ _ _ _ _ _ _ _ _ _ _ _ _)
  | (with_reducible exact zaw.mono _ _)
  | (with_reducible exact zbe.mono _ _ _ _ _ _ _ _ _ _ _ _ _ _ _)
  | (with_reducible exact zbk.mono _ _ _ _ _ _ _ _ _ _ _ _ _ _)
  | (with_reducible exact LeO.refl _)
  | (with_reducible exact LeO.none _)
  | (with_reducible refine LeO.ite ?_ ?_)
  | (with_reducible refine LeO.bind ?_ (fun _ => ?_))
open Go.Proofs.YtinkbljjpafadaaRF Go.Proofs.YtinkbljjpafadaaRG in
theorem chaperonlaw16_CoerceShort.calls (k : Nat) (A0 : Option Addr) (c0 : Nat) (l0 : List (S64)) (a1_0 : Int) (a1_1 : Int) (a1_2 : Int) (a1_3 : ByteArray) (A1_4 : Option Addr) (c1_4 : Nat) (l1_4 : List (S35)) (a2 : ByteArray) (a3 : Int) (a4_0 : Int) (a4_1 : Int) (a4_2 : Int) (a4_3 : ByteArray) (A4_4 : Option Addr) (c4_4 : Nat) (l4_4 : List (S35)) (r : Bool) (w : World) (hr0 : Kd.C k64 w A0 l0.length l0) (hc0 : l0.length ≤ c0) (hr1_4 : Kd.C k35 w A1_4 l1_4.length l1_4) (hc1_4 : l1_4.length ≤ c1_4) (hr4_4 : Kd.C k35 w A4_4 l4_4.length l4_4) (hc4_4 : l4_4.length ≤ c4_4) (h : chaperonlaw16_CoerceShort.f k l0 a1_0 a1_1 a1_2 a1_3 l1_4 a2 a3 a4_0 a4_1 a4_2 a4_3 l4_4 = some r) :
  Calls Try.prog 4 #[.slice A0 l0.length c0, .agg #[.int .i64 a1_0, .int .i64 a1_1, .int .u64 a1_2, .string a1_3, .slice A1_4 l1_4.length c1_4], .string a2, .int .i64 a3, .agg #[.int .i64 a4_0, .int .i64 a4_1, .int .u64 a4_2, .string a4_3, .slice A4_4 l4_4.length c4_4]] w fun e w' => e = .returned (.bool r) ∧ Below w.heap.size w w' := by
 unfold chaperonlaw16_CoerceShort.f at h
 have hu27 := Try.underlying27
 have hu33 := Try.underlying33
 have hu35 := Try.underlying35
 have HB := zaa.mk (Below.refl w.heap.size w)
 have PHC0 := zaa.mk hr0
 have HC0 := zaa.mk hr0
 clear hr0
 have PHC1_4 := zaa.mk hr1_4
 have HC1_4 := zaa.mk hr1_4
 clear hr1_4
 have PHC4_4 := zaa.mk hr4_4
 have HC4_4 := zaa.mk hr4_4
 clear hr4_4
 go_enter Try.func4, Try.ntmps4
 refine wp_seq ?_
 refine rgt (N := 95) 0 ?_
 rw [show List.range 0 = [] from rfl]
 intro vs w73_ hr hE
 have hg : Grows w w73_ := hr
 clear hE hr
 rw [show List.range 0 = [] from rfl]
 simp only [ps, ga, pa]
 have hT : Grows w73_ w73_ := Grows.refl _
 obtain ⟨w73_a, hw73_a⟩ : ∃ W, W = w73_.alloc (.cells #[.int .i64 a1_0, .int .i64 a1_1, .int .u64 a1_2, .string a1_3, .slice A1_4 l1_4.length c1_4] 27) := ⟨_, rfl⟩
 obtain ⟨b1_, hb1_⟩ : ∃ n, n = w73_.heap.size := ⟨_, rfl⟩
 refine zbv (i := 0) (r := [1, 2]) (w' := w73_a) 6 (.pointer (some ⟨b1_, 0, none⟩)) rfl rfl (zae rfl) (by rw [hw73_a, hb1_]; go_simp) ?_
 simp only [pa]
 have HXb1 : w73_a.heap[b1_]? = some (.cells #[.int .i64 a1_0, .int .i64 a1_1, .int .u64 a1_2, .string a1_3, .slice A1_4 l1_4.length c1_4] 27 (0, 0)) := by rw [hw73_a, hb1_]; exact at_new _ _ rfl
 replace HXb1 := zaa.mk HXb1
 have hlb1 : w73_.heap.size ≤ b1_ := by rw [hb1_]; exact hT.size
 replace hT : Grows w73_ w73_a := by rw [hw73_a]; exact hT.trans (Grows.alloc _ _)
 clear hw73_a hb1_
 have hwb1 : w.heap.size ≤ b1_ := Nat.le_trans (Nat.le_trans HB.out.size hg.size) hlb1
 obtain ⟨w73_aa, hw73_aa⟩ : ∃ W, W = w73_a.alloc (.cells #[.int .i64 a4_0, .int .i64 a4_1, .int .u64 a4_2, .string a4_3, .slice A4_4 l4_4.length c4_4] 27) := ⟨_, rfl⟩
 obtain ⟨b2_, hb2_⟩ : ∃ n, n = w73_a.heap.size := ⟨_, rfl⟩
 refine zbv (i := 1) (r := [2]) (w' := w73_aa) 9 (.pointer (some ⟨b2_, 0, none⟩)) rfl rfl (zae rfl) (by rw [hw73_aa, hb2_]; go_simp) ?_
 simp only [pa]
 have HXb2 : w73_aa.heap[b2_]? = some (.cells #[.int .i64 a4_0, .int .i64 a4_1, .int .u64 a4_2, .string a4_3, .slice A4_4 l4_4.length c4_4] 27 (0, 0)) := by rw [hw73_aa, hb2_]; exact at_new _ _ rfl
 replace HXb2 := zaa.mk HXb2
 have hX_ := zal HXb1.out (.cells #[.int .i64 a4_0, .int .i64 a4_1, .int .u64 a4_2, .string a4_3, .slice A4_4 l4_4.length c4_4] 27)
 rw [← hw73_aa] at hX_
 replace HXb1 := zaa.mk hX_
 clear hX_
 have hlb2 : w73_.heap.size ≤ b2_ := by rw [hb2_]; exact hT.size
 replace hT : Grows w73_ w73_aa := by rw [hw73_aa]; exact hT.trans (Grows.alloc _ _)
 clear hw73_aa hb2_
 have hwb2 : w.heap.size ≤ b2_ := Nat.le_trans (Nat.le_trans HB.out.size hg.size) hlb2
 skip
 refine zbv (i := 2) (r := []) (w' := w73_aa) 10 (.bool false) rfl rfl (zae rfl) q9 ?_
 simp only [pa]
 replace hg : Grows w w73_aa := hg.trans hT
 clear hT
 refine zaX ?_
 simp only [Exit.then]
 replace HB := hbm HB hg
 clear hg
 replace HC0 := cb PHC0 HB.out
 replace HC1_4 := cb PHC1_4 HB.out
 replace HC4_4 := cb PHC4_4 HB.out
 refine wp_seq ?_
 replace h := Option.bind_eq_some_iff.1 h
 obtain ⟨t3, F4, h⟩ := h
 try dsimp only at h
 replace F4 := zaa.mk F4
 refine rgt (N := 95) 2 ?_
 rw [show List.range 2 = [0, 1] from rfl]
 refine rgc (fun v _ => v = .bool t3) Try.func3 ?_ ?_
 ·
  intro a w' hr hs
  rw [show (#[] : Array Operand).map a.eval = #[] by simp]
  refine (zaE.calls k t3 _ F4.out).mono ?_
  rintro e w3 ⟨rfl, hb⟩
  exact ⟨_, rfl, hb, rfl⟩
 refine rgv (.bool t3) ?_ ?_
 ·
  intro a w' hr hs
  have h20 := hs.gv 0 rfl rfl
  go_simp
 intro vs w74_ hr hE
 have e1 : vs 1 = .bool t3 := hE _ (zbs 0 rfl)
 have hg : Grows w73_aa w74_ := hr
 clear hE hr
 rw [show List.range 2 = [0, 1] from rfl]
 simp only [ps, ga, pa, e1]
 clear e1
 have hT : Grows w74_ w74_ := Grows.refl _
 replace hg : Grows w73_aa w74_ := hg.trans hT
 clear hT
 refine zaX ?_
 simp only [Exit.then]
 replace HXb1 := ab HXb1 hg
 replace HXb2 := ab HXb2 hg
 replace HB := hbm HB hg
 clear hg
 replace HC0 := cb PHC0 HB.out
 replace HC1_4 := cb PHC1_4 HB.out
 replace HC4_4 := cb PHC4_4 HB.out
 refine wp_seq ?_
 refine wp_seq ?_
 replace h := Option.bind_eq_some_iff.1 h
 obtain ⟨t5, F6, h⟩ := h
 try dsimp only at h
 replace F6 := zaa.mk F6
 by_cases q75 : t5 = true
 ·
  rw [if_pos q75] at h
  obtain rfl : t5 = true := by simpa using q75
  refine rgt (N := 95) 20 ?_
  rw [show List.range 20 = [0, 1, 2, 3, 4, 5, 6, 7, 8, 9, 10, 11, 12, 13, 14, 15, 16, 17, 18, 19] from rfl]
  refine rgv (.slice A0 l0.length c0) ?_ ?_
  ·
   intro a w' hr hs
   have h0 := hs.ov 0 (.slice A0 l0.length c0)
   go_simp
  refine rgc (fun v _ => v = .bool true) Try.func19 ?_ ?_
  ·
   intro a w' hr hs
   have h21 := hs.gv 0 rfl rfl
   rw [show (#[Operand.tmp 21] : Array Operand).map a.eval = #[.slice A0 l0.length c0] by simp [Act.eval, h21]]
   refine (zah.calls k A0 c0 l0 true _ (Kd.zat HC0.out hr) hc0 F6.out).mono ?_
   rintro e w3 ⟨rfl, hb⟩
   exact ⟨_, rfl, hb, rfl⟩
  refine rgv (.bool true) ?_ ?_
  ·
   intro a w' hr hs
   have h22 := hs.gv 0 rfl rfl
   go_simp
  refine zbL rfl (fun a w hr hs => (zbl (g := 2) (t := 23) (b' := true) rfl rfl (hs.g 0)).trans rfl) ?_
  refine zbL rfl (fun a w hr hs => (zbl (g := 2) (t := 23) (b' := true) rfl rfl (hs.g 1)).trans rfl) ?_
  refine rgv (.bool true) ?_ ?_
  ·
   intro a w' hr hs
   have h23 := hs.gv 2 rfl rfl
   go_simp
  refine rgv (.bool true) ?_ ?_
  ·
   intro a w' hr hs
   have h26 := hs.gv 0 rfl rfl
   go_simp
  refine zbL rfl (fun a w hr hs => (zbl (g := 6) (t := 27) (b' := true) rfl rfl (hs.g 0)).trans rfl) ?_
  refine zbL rfl (fun a w hr hs => (zbl (g := 6) (t := 27) (b' := true) rfl rfl (hs.g 1)).trans rfl) ?_
  refine rgv (.bool true) ?_ ?_
  ·
   intro a w' hr hs
   have h27 := hs.gv 2 rfl rfl
   go_simp
  refine rgv (.bool true) ?_ ?_
  ·
   intro a w' hr hs
   have h30 := hs.gv 0 rfl rfl
   go_simp
  refine zbL rfl (fun a w hr hs => (zbl (g := 10) (t := 31) (b' := true) rfl rfl (hs.g 0)).trans rfl) ?_
  refine zbL rfl (fun a w hr hs => (zbl (g := 10) (t := 31) (b' := true) rfl rfl (hs.g 1)).trans rfl) ?_
  refine zbL rfl (fun a w hr hs => (zbl (g := 10) (t := 31) (b' := true) rfl rfl (hs.g 2)).trans rfl) ?_
  refine rgv (.bool true) ?_ ?_
  ·
   intro a w' hr hs
   have h31 := hs.gv 3 rfl rfl
   go_simp
  refine rgv (.bool true) ?_ ?_
  ·
   intro a w' hr hs
   have h35 := hs.gv 0 rfl rfl
   go_simp
  refine zbL rfl (fun a w hr hs => (zbl (g := 15) (t := 36) (b' := true) rfl rfl (hs.g 0)).trans rfl) ?_
  refine zbL rfl (fun a w hr hs => (zbl (g := 15) (t := 36) (b' := true) rfl rfl (hs.g 1)).trans rfl) ?_
  refine zbL rfl (fun a w hr hs => (zbl (g := 15) (t := 36) (b' := true) rfl rfl (hs.g 2)).trans rfl) ?_
  refine rgv (.bool true) ?_ ?_
  ·
   intro a w' hr hs
   have h36 := hs.gv 3 rfl rfl
   go_simp
  intro vs w76_ hr hE
  have e19 : vs 19 = .bool true := hE _ (zbs 0 rfl)
  have hg : Grows w74_ w76_ := hr
  clear hE hr
  rw [show List.range 20 = [0, 1, 2, 3, 4, 5, 6, 7, 8, 9, 10, 11, 12, 13, 14, 15, 16, 17, 18, 19] from rfl]
  simp only [ps, ga, pa, e19]
  clear e19
  have hT : Grows w76_ w76_ := Grows.refl _
  replace hg : Grows w74_ w76_ := hg.trans hT
  clear hT
  refine zaX ?_
  simp only [Exit.then]
  replace HXb1 := ab HXb1 hg
  replace HXb2 := ab HXb2 hg
  replace HB := hbm HB hg
  clear hg
  replace HC0 := cb PHC0 HB.out
  replace HC1_4 := cb PHC1_4 HB.out
  replace HC4_4 := cb PHC4_4 HB.out
  refine wp_cond_true q9 ?_
  refine wp_seq ?_
  refine rgt (N := 95) 2 ?_
  rw [show List.range 2 = [0, 1] from rfl]
  refine rgv (.bool t3) ?_ ?_
  ·
   intro a w' hr hs
   have h11 := hs.ov 11 (.bool t3)
   go_simp
  refine rgv (.bool t3) ?_ ?_
  ·
   intro a w' hr hs
   have h41 := hs.gv 0 rfl rfl
   go_simp
  intro vs w77_ hr hE
  have e1 : vs 1 = .bool t3 := hE _ (zbs 0 rfl)
  have hg : Grows w76_ w77_ := hr
  clear hE hr
  rw [show List.range 2 = [0, 1] from rfl]
  simp only [ps, ga, pa, e1]
  clear e1
  have hT : Grows w77_ w77_ := Grows.refl _
  replace hg : Grows w76_ w77_ := hg.trans hT
  clear hT
  refine zaX ?_
  simp only [Exit.then]
  replace HXb1 := ab HXb1 hg
  replace HXb2 := ab HXb2 hg
  replace HB := hbm HB hg
  clear hg
  replace HC0 := cb PHC0 HB.out
  replace HC1_4 := cb PHC1_4 HB.out
  replace HC4_4 := cb PHC4_4 HB.out
  obtain rfl := Option.some.inj h
  go_wp2_with fail
  go_ret
  exact ⟨rfl, HB.out⟩
 ·
  rw [if_neg q75] at h
  obtain rfl : t5 = false := by simpa using q75
  replace h := Option.bind_eq_some_iff.1 h
  obtain ⟨t7, F8, h⟩ := h
  try dsimp only at h
  replace F8 := zaa.mk F8
  by_cases q78 : t7 = true
  ·
   rw [if_pos q78] at h
   obtain rfl : t7 = true := by simpa using q78
   refine rgt (N := 95) 20 ?_
   rw [show List.range 20 = [0, 1, 2, 3, 4, 5, 6, 7, 8, 9, 10, 11, 12, 13, 14, 15, 16, 17, 18, 19] from rfl]
   refine rgv (.slice A0 l0.length c0) ?_ ?_
   ·
    intro a w' hr hs
    have h0 := hs.ov 0 (.slice A0 l0.length c0)
    go_simp
   refine rgc (fun v _ => v = .bool false) Try.func19 ?_ ?_
   ·
    intro a w' hr hs
    have h21 := hs.gv 0 rfl rfl
    rw [show (#[Operand.tmp 21] : Array Operand).map a.eval = #[.slice A0 l0.length c0] by simp [Act.eval, h21]]
    refine (zah.calls k A0 c0 l0 false _ (Kd.zat HC0.out hr) hc0 F6.out).mono ?_
    rintro e w3 ⟨rfl, hb⟩
    exact ⟨_, rfl, hb, rfl⟩
   refine rgv (.bool false) ?_ ?_
   ·
    intro a w' hr hs
    have h22 := hs.gv 0 rfl rfl
    go_simp
   refine zaF (.agg #[.int .i64 a4_0, .int .i64 a4_1, .int .u64 a4_2, .string a4_3, .slice A4_4 l4_4.length c4_4]) Grows.refl rfl (fun a w hr hs => zax (g := 2) (t := 23) rfl rfl (hs.g 0)) ?_ ?_
   ·
    intro a w' hr hs
    have h9 := hs.ov 9 (.pointer (some ⟨b2_, 0, none⟩))
    have x := hr.at HXb2.out
    have x0 := zad x 0
    have x1 := zad x 1
    have x2 := zad x 2
    have x3 := zad x 3
    have x4 := zad x 4
    simp only [ga] at x0 x1 x2 x3 x4
    go_simp
   refine zbc (fun v _ => v = .bool true) (fun _ _ _ _ h => h) rfl rfl Try.func20 k9 rfl (fun a w hr hs => zax (g := 2) (t := 23) rfl rfl (hs.g 1)) ?_ ?_
   ·
    intro a w' hr hs
    have h24 := hs.gv 0 rfl rfl
    rw [show (#[Operand.tmp 24] : Array Operand).map a.eval = #[.agg #[.int .i64 a4_0, .int .i64 a4_1, .int .u64 a4_2, .string a4_3, .slice A4_4 l4_4.length c4_4]] by simp [Act.eval, h24]]
    refine (zak.calls k a4_0 a4_1 a4_2 a4_3 A4_4 c4_4 l4_4 true _ (Kd.zat HC4_4.out hr) hc4_4 F8.out).mono ?_
    rintro e w3 ⟨rfl, hb⟩
    exact ⟨_, rfl, hb, rfl⟩
   refine rgv (.bool true) ?_ ?_
   ·
    intro a w' hr hs
    have h23 := hs.gv 2 rfl rfl
    have h25 := hs.gv 0 rfl rfl
    go_simp
   refine rgv (.bool true) ?_ ?_
   ·
    intro a w' hr hs
    have h26 := hs.gv 0 rfl rfl
    go_simp
   refine zbL rfl (fun a w hr hs => (zbl (g := 6) (t := 27) (b' := true) rfl rfl (hs.g 0)).trans rfl) ?_
   refine zbL rfl (fun a w hr hs => (zbl (g := 6) (t := 27) (b' := true) rfl rfl (hs.g 1)).trans rfl) ?_
   refine rgv (.bool true) ?_ ?_
   ·
    intro a w' hr hs
    have h27 := hs.gv 2 rfl rfl
    go_simp
   refine rgv (.bool true) ?_ ?_
   ·
    intro a w' hr hs
    have h30 := hs.gv 0 rfl rfl
    go_simp
   refine zbL rfl (fun a w hr hs => (zbl (g := 10) (t := 31) (b' := true) rfl rfl (hs.g 0)).trans rfl) ?_
   refine zbL rfl (fun a w hr hs => (zbl (g := 10) (t := 31) (b' := true) rfl rfl (hs.g 1)).trans rfl) ?_
   refine zbL rfl (fun a w hr hs => (zbl (g := 10) (t := 31) (b' := true) rfl rfl (hs.g 2)).trans rfl) ?_
   refine rgv (.bool true) ?_ ?_
   ·
    intro a w' hr hs
    have h31 := hs.gv 3 rfl rfl
    go_simp
   refine rgv (.bool true) ?_ ?_
   ·
    intro a w' hr hs
    have h35 := hs.gv 0 rfl rfl
    go_simp
   refine zbL rfl (fun a w hr hs => (zbl (g := 15) (t := 36) (b' := true) rfl rfl (hs.g 0)).trans rfl) ?_
   refine zbL rfl (fun a w hr hs => (zbl (g := 15) (t := 36) (b' := true) rfl rfl (hs.g 1)).trans rfl) ?_
   refine zbL rfl (fun a w hr hs => (zbl (g := 15) (t := 36) (b' := true) rfl rfl (hs.g 2)).trans rfl) ?_
   refine rgv (.bool true) ?_ ?_
   ·
    intro a w' hr hs
    have h36 := hs.gv 3 rfl rfl
    go_simp
   intro vs w79_ hr hE
   have e19 : vs 19 = .bool true := hE _ (zbs 0 rfl)
   have hg : Grows w74_ w79_ := hr
   clear hE hr
   rw [show List.range 20 = [0, 1, 2, 3, 4, 5, 6, 7, 8, 9, 10, 11, 12, 13, 14, 15, 16, 17, 18, 19] from rfl]
   simp only [ps, ga, pa, e19]
   clear e19
   have hT : Grows w79_ w79_ := Grows.refl _
   replace hg : Grows w74_ w79_ := hg.trans hT
   clear hT
   refine zaX ?_
   simp only [Exit.then]
   replace HXb1 := ab HXb1 hg
   replace HXb2 := ab HXb2 hg
   replace HB := hbm HB hg
   clear hg
   replace HC0 := cb PHC0 HB.out
   replace HC1_4 := cb PHC1_4 HB.out
   replace HC4_4 := cb PHC4_4 HB.out
   refine wp_cond_true q9 ?_
   refine wp_seq ?_
   refine rgt (N := 95) 2 ?_
   rw [show List.range 2 = [0, 1] from rfl]
   refine rgv (.bool t3) ?_ ?_
   ·
    intro a w' hr hs
    have h11 := hs.ov 11 (.bool t3)
    go_simp
   refine rgv (.bool t3) ?_ ?_
   ·
    intro a w' hr hs
    have h41 := hs.gv 0 rfl rfl
    go_simp
   intro vs w80_ hr hE
   have e1 : vs 1 = .bool t3 := hE _ (zbs 0 rfl)
   have hg : Grows w79_ w80_ := hr
   clear hE hr
   rw [show List.range 2 = [0, 1] from rfl]
   simp only [ps, ga, pa, e1]
   clear e1
   have hT : Grows w80_ w80_ := Grows.refl _
   replace hg : Grows w79_ w80_ := hg.trans hT
   clear hT
   refine zaX ?_
   simp only [Exit.then]
   replace HXb1 := ab HXb1 hg
   replace HXb2 := ab HXb2 hg
   replace HB := hbm HB hg
   clear hg
   replace HC0 := cb PHC0 HB.out
   replace HC1_4 := cb PHC1_4 HB.out
   replace HC4_4 := cb PHC4_4 HB.out
   obtain rfl := Option.some.inj h
   go_wp2_with fail
   go_ret
   exact ⟨rfl, HB.out⟩
  ·
   rw [if_neg q78] at h
   obtain rfl : t7 = false := by simpa using q78
   replace h := Option.bind_eq_some_iff.1 h
   obtain ⟨t9, F10, h⟩ := h
   try dsimp only at h
   replace F10 := zaa.mk F10
   by_cases q81 : t9 = true
   ·
    rw [if_pos q81] at h
    obtain rfl : t9 = true := by simpa using q81
    refine rgt (N := 95) 20 ?_
    rw [show List.range 20 = [0, 1, 2, 3, 4, 5, 6, 7, 8, 9, 10, 11, 12, 13, 14, 15, 16, 17, 18, 19] from rfl]
    refine rgv (.slice A0 l0.length c0) ?_ ?_
    ·
     intro a w' hr hs
     have h0 := hs.ov 0 (.slice A0 l0.length c0)
     go_simp
    refine rgc (fun v _ => v = .bool false) Try.func19 ?_ ?_
    ·
     intro a w' hr hs
     have h21 := hs.gv 0 rfl rfl
     rw [show (#[Operand.tmp 21] : Array Operand).map a.eval = #[.slice A0 l0.length c0] by simp [Act.eval, h21]]
     refine (zah.calls k A0 c0 l0 false _ (Kd.zat HC0.out hr) hc0 F6.out).mono ?_
     rintro e w3 ⟨rfl, hb⟩
     exact ⟨_, rfl, hb, rfl⟩
    refine rgv (.bool false) ?_ ?_
    ·
     intro a w' hr hs
     have h22 := hs.gv 0 rfl rfl
     go_simp
    refine zaF (.agg #[.int .i64 a4_0, .int .i64 a4_1, .int .u64 a4_2, .string a4_3, .slice A4_4 l4_4.length c4_4]) Grows.refl rfl (fun a w hr hs => zax (g := 2) (t := 23) rfl rfl (hs.g 0)) ?_ ?_
    ·
     intro a w' hr hs
     have h9 := hs.ov 9 (.pointer (some ⟨b2_, 0, none⟩))
     have x := hr.at HXb2.out
     have x0 := zad x 0
     have x1 := zad x 1
     have x2 := zad x 2
     have x3 := zad x 3
     have x4 := zad x 4
     simp only [ga] at x0 x1 x2 x3 x4
     go_simp
    refine zbc (fun v _ => v = .bool false) (fun _ _ _ _ h => h) rfl rfl Try.func20 k9 rfl (fun a w hr hs => zax (g := 2) (t := 23) rfl rfl (hs.g 1)) ?_ ?_
    ·
     intro a w' hr hs
     have h24 := hs.gv 0 rfl rfl
     rw [show (#[Operand.tmp 24] : Array Operand).map a.eval = #[.agg #[.int .i64 a4_0, .int .i64 a4_1, .int .u64 a4_2, .string a4_3, .slice A4_4 l4_4.length c4_4]] by simp [Act.eval, h24]]
     refine (zak.calls k a4_0 a4_1 a4_2 a4_3 A4_4 c4_4 l4_4 false _ (Kd.zat HC4_4.out hr) hc4_4 F8.out).mono ?_
     rintro e w3 ⟨rfl, hb⟩
     exact ⟨_, rfl, hb, rfl⟩
    refine rgv (.bool false) ?_ ?_
    ·
     intro a w' hr hs
     have h23 := hs.gv 2 rfl rfl
     have h25 := hs.gv 0 rfl rfl
     go_simp
    refine rgv (.bool false) ?_ ?_
    ·
     intro a w' hr hs
     have h26 := hs.gv 0 rfl rfl
     go_simp
    refine zaF (.agg #[.int .i64 a1_0, .int .i64 a1_1, .int .u64 a1_2, .string a1_3, .slice A1_4 l1_4.length c1_4]) Grows.refl rfl (fun a w hr hs => zax (g := 6) (t := 27) rfl rfl (hs.g 0)) ?_ ?_
    ·
     intro a w' hr hs
     have h6 := hs.ov 6 (.pointer (some ⟨b1_, 0, none⟩))
     have x := hr.at HXb1.out
     have x0 := zad x 0
     have x1 := zad x 1
     have x2 := zad x 2
     have x3 := zad x 3
     have x4 := zad x 4
     simp only [ga] at x0 x1 x2 x3 x4
     go_simp
    refine zbc (fun v _ => v = .bool true) (fun _ _ _ _ h => h) rfl rfl Try.func20 k9 rfl (fun a w hr hs => zax (g := 6) (t := 27) rfl rfl (hs.g 1)) ?_ ?_
    ·
     intro a w' hr hs
     have h28 := hs.gv 0 rfl rfl
     rw [show (#[Operand.tmp 28] : Array Operand).map a.eval = #[.agg #[.int .i64 a1_0, .int .i64 a1_1, .int .u64 a1_2, .string a1_3, .slice A1_4 l1_4.length c1_4]] by simp [Act.eval, h28]]
     refine (zak.calls k a1_0 a1_1 a1_2 a1_3 A1_4 c1_4 l1_4 true _ (Kd.zat HC1_4.out hr) hc1_4 F10.out).mono ?_
     rintro e w3 ⟨rfl, hb⟩
     exact ⟨_, rfl, hb, rfl⟩
    refine rgv (.bool true) ?_ ?_
    ·
     intro a w' hr hs
     have h27 := hs.gv 2 rfl rfl
     have h29 := hs.gv 0 rfl rfl
     go_simp
    refine rgv (.bool true) ?_ ?_
    ·
     intro a w' hr hs
     have h30 := hs.gv 0 rfl rfl
     go_simp
    refine zbL rfl (fun a w hr hs => (zbl (g := 10) (t := 31) (b' := true) rfl rfl (hs.g 0)).trans rfl) ?_
    refine zbL rfl (fun a w hr hs => (zbl (g := 10) (t := 31) (b' := true) rfl rfl (hs.g 1)).trans rfl) ?_
    refine zbL rfl (fun a w hr hs => (zbl (g := 10) (t := 31) (b' := true) rfl rfl (hs.g 2)).trans rfl) ?_
    refine rgv (.bool true) ?_ ?_
    ·
     intro a w' hr hs
     have h31 := hs.gv 3 rfl rfl
     go_simp
    refine rgv (.bool true) ?_ ?_
    ·
     intro a w' hr hs
     have h35 := hs.gv 0 rfl rfl
     go_simp
    refine zbL rfl (fun a w hr hs => (zbl (g := 15) (t := 36) (b' := true) rfl rfl (hs.g 0)).trans rfl) ?_
    refine zbL rfl (fun a w hr hs => (zbl (g := 15) (t := 36) (b' := true) rfl rfl (hs.g 1)).trans rfl) ?_
    refine zbL rfl (fun a w hr hs => (zbl (g := 15) (t := 36) (b' := true) rfl rfl (hs.g 2)).trans rfl) ?_
    refine rgv (.bool true) ?_ ?_
    ·
     intro a w' hr hs
     have h36 := hs.gv 3 rfl rfl
     go_simp
    intro vs w82_ hr hE
    have e19 : vs 19 = .bool true := hE _ (zbs 0 rfl)
    have hg : Grows w74_ w82_ := hr
    clear hE hr
    rw [show List.range 20 = [0, 1, 2, 3, 4, 5, 6, 7, 8, 9, 10, 11, 12, 13, 14, 15, 16, 17, 18, 19] from rfl]
    simp only [ps, ga, pa, e19]
    clear e19
    have hT : Grows w82_ w82_ := Grows.refl _
    replace hg : Grows w74_ w82_ := hg.trans hT
    clear hT
    refine zaX ?_
    simp only [Exit.then]
    replace HXb1 := ab HXb1 hg
    replace HXb2 := ab HXb2 hg
    replace HB := hbm HB hg
    clear hg
    replace HC0 := cb PHC0 HB.out
    replace HC1_4 := cb PHC1_4 HB.out
    replace HC4_4 := cb PHC4_4 HB.out
    refine wp_cond_true q9 ?_
    refine wp_seq ?_
    refine rgt (N := 95) 2 ?_
    rw [show List.range 2 = [0, 1] from rfl]
    refine rgv (.bool t3) ?_ ?_
    ·
     intro a w' hr hs
     have h11 := hs.ov 11 (.bool t3)
     go_simp
    refine rgv (.bool t3) ?_ ?_
    ·
     intro a w' hr hs
     have h41 := hs.gv 0 rfl rfl
     go_simp
    intro vs w83_ hr hE
    have e1 : vs 1 = .bool t3 := hE _ (zbs 0 rfl)
    have hg : Grows w82_ w83_ := hr
    clear hE hr
    rw [show List.range 2 = [0, 1] from rfl]
    simp only [ps, ga, pa, e1]
    clear e1
    have hT : Grows w83_ w83_ := Grows.refl _
    replace hg : Grows w82_ w83_ := hg.trans hT
    clear hT
    refine zaX ?_
    simp only [Exit.then]
    replace HXb1 := ab HXb1 hg
    replace HXb2 := ab HXb2 hg
    replace HB := hbm HB hg
    clear hg
    replace HC0 := cb PHC0 HB.out
    replace HC1_4 := cb PHC1_4 HB.out
    replace HC4_4 := cb PHC4_4 HB.out
    obtain rfl := Option.some.inj h
    go_wp2_with fail
    go_ret
    exact ⟨rfl, HB.out⟩
   ·
    rw [if_neg q81] at h
    obtain rfl : t9 = false := by simpa using q81
    by_cases q84 : (decide ((a2.size : Int) > 60)) = true
    ·
     rw [if_pos q84] at h
     have q84a : (decide ((a2.size : Int) > 60)) = true := by simpa using q84
     have q84b : decide (60 < (a2.size : Int)) = true := q84a
     clear q84
     refine rgt (N := 95) 20 ?_
     rw [show List.range 20 = [0, 1, 2, 3, 4, 5, 6, 7, 8, 9, 10, 11, 12, 13, 14, 15, 16, 17, 18, 19] from rfl]
     refine rgv (.slice A0 l0.length c0) ?_ ?_
     ·
      intro a w' hr hs
      have h0 := hs.ov 0 (.slice A0 l0.length c0)
      go_simp
     refine rgc (fun v _ => v = .bool false) Try.func19 ?_ ?_
     ·
      intro a w' hr hs
      have h21 := hs.gv 0 rfl rfl
      rw [show (#[Operand.tmp 21] : Array Operand).map a.eval = #[.slice A0 l0.length c0] by simp [Act.eval, h21]]
      refine (zah.calls k A0 c0 l0 false _ (Kd.zat HC0.out hr) hc0 F6.out).mono ?_
      rintro e w3 ⟨rfl, hb⟩
      exact ⟨_, rfl, hb, rfl⟩
     refine rgv (.bool false) ?_ ?_
     ·
      intro a w' hr hs
      have h22 := hs.gv 0 rfl rfl
      go_simp
     refine zaF (.agg #[.int .i64 a4_0, .int .i64 a4_1, .int .u64 a4_2, .string a4_3, .slice A4_4 l4_4.length c4_4]) Grows.refl rfl (fun a w hr hs => zax (g := 2) (t := 23) rfl rfl (hs.g 0)) ?_ ?_
     ·
      intro a w' hr hs
      have h9 := hs.ov 9 (.pointer (some ⟨b2_, 0, none⟩))
      have x := hr.at HXb2.out
      have x0 := zad x 0
      have x1 := zad x 1
      have x2 := zad x 2
      have x3 := zad x 3
      have x4 := zad x 4
      simp only [ga] at x0 x1 x2 x3 x4
      go_simp
     refine zbc (fun v _ => v = .bool false) (fun _ _ _ _ h => h) rfl rfl Try.func20 k9 rfl (fun a w hr hs => zax (g := 2) (t := 23) rfl rfl (hs.g 1)) ?_ ?_
     ·
      intro a w' hr hs
      have h24 := hs.gv 0 rfl rfl
      rw [show (#[Operand.tmp 24] : Array Operand).map a.eval = #[.agg #[.int .i64 a4_0, .int .i64 a4_1, .int .u64 a4_2, .string a4_3, .slice A4_4 l4_4.length c4_4]] by simp [Act.eval, h24]]
      refine (zak.calls k a4_0 a4_1 a4_2 a4_3 A4_4 c4_4 l4_4 false _ (Kd.zat HC4_4.out hr) hc4_4 F8.out).mono ?_
      rintro e w3 ⟨rfl, hb⟩
      exact ⟨_, rfl, hb, rfl⟩
     refine rgv (.bool false) ?_ ?_
     ·
      intro a w' hr hs
      have h23 := hs.gv 2 rfl rfl
      have h25 := hs.gv 0 rfl rfl
      go_simp
     refine rgv (.bool false) ?_ ?_
     ·
      intro a w' hr hs
      have h26 := hs.gv 0 rfl rfl
      go_simp
     refine zaF (.agg #[.int .i64 a1_0, .int .i64 a1_1, .int .u64 a1_2, .string a1_3, .slice A1_4 l1_4.length c1_4]) Grows.refl rfl (fun a w hr hs => zax (g := 6) (t := 27) rfl rfl (hs.g 0)) ?_ ?_
     ·
      intro a w' hr hs
      have h6 := hs.ov 6 (.pointer (some ⟨b1_, 0, none⟩))
      have x := hr.at HXb1.out
      have x0 := zad x 0
      have x1 := zad x 1
      have x2 := zad x 2
      have x3 := zad x 3
      have x4 := zad x 4
      simp only [ga] at x0 x1 x2 x3 x4
      go_simp
     refine zbc (fun v _ => v = .bool false) (fun _ _ _ _ h => h) rfl rfl Try.func20 k9 rfl (fun a w hr hs => zax (g := 6) (t := 27) rfl rfl (hs.g 1)) ?_ ?_
     ·
      intro a w' hr hs
      have h28 := hs.gv 0 rfl rfl
      rw [show (#[Operand.tmp 28] : Array Operand).map a.eval = #[.agg #[.int .i64 a1_0, .int .i64 a1_1, .int .u64 a1_2, .string a1_3, .slice A1_4 l1_4.length c1_4]] by simp [Act.eval, h28]]
      refine (zak.calls k a1_0 a1_1 a1_2 a1_3 A1_4 c1_4 l1_4 false _ (Kd.zat HC1_4.out hr) hc1_4 F10.out).mono ?_
      rintro e w3 ⟨rfl, hb⟩
      exact ⟨_, rfl, hb, rfl⟩
     refine rgv (.bool false) ?_ ?_
     ·
      intro a w' hr hs
      have h27 := hs.gv 2 rfl rfl
      have h29 := hs.gv 0 rfl rfl
      go_simp
     refine rgv (.bool false) ?_ ?_
     ·
      intro a w' hr hs
      have h30 := hs.gv 0 rfl rfl
      go_simp
     refine zaF (.string a2) Grows.refl rfl (fun a w hr hs => zax (g := 10) (t := 31) rfl rfl (hs.g 0)) ?_ ?_
     ·
      intro a w' hr hs
      have h2 := hs.ov 2 (.string a2)
      go_simp
     refine zaF (.int .i64 (a2.size : Int)) Grows.refl rfl (fun a w hr hs => zax (g := 10) (t := 31) rfl rfl (hs.g 1)) ?_ ?_
     ·
      intro a w' hr hs
      have h32 := hs.gv 0 rfl rfl
      go_simp
     refine zaF (.bool true) Grows.refl rfl (fun a w hr hs => zax (g := 10) (t := 31) rfl rfl (hs.g 2)) ?_ ?_
     ·
      intro a w' hr hs
      have h33 := hs.gv 0 rfl rfl
      go_simp
     refine rgv (.bool true) ?_ ?_
     ·
      intro a w' hr hs
      have h31 := hs.gv 3 rfl rfl
      have h34 := hs.gv 0 rfl rfl
      go_simp
     refine rgv (.bool true) ?_ ?_
     ·
      intro a w' hr hs
      have h35 := hs.gv 0 rfl rfl
      go_simp
     refine zbL rfl (fun a w hr hs => (zbl (g := 15) (t := 36) (b' := true) rfl rfl (hs.g 0)).trans rfl) ?_
     refine zbL rfl (fun a w hr hs => (zbl (g := 15) (t := 36) (b' := true) rfl rfl (hs.g 1)).trans rfl) ?_
     refine zbL rfl (fun a w hr hs => (zbl (g := 15) (t := 36) (b' := true) rfl rfl (hs.g 2)).trans rfl) ?_
     refine rgv (.bool true) ?_ ?_
     ·
      intro a w' hr hs
      have h36 := hs.gv 3 rfl rfl
      go_simp
     intro vs w85_ hr hE
     have e19 : vs 19 = .bool true := hE _ (zbs 0 rfl)
     have hg : Grows w74_ w85_ := hr
     clear hE hr
     rw [show List.range 20 = [0, 1, 2, 3, 4, 5, 6, 7, 8, 9, 10, 11, 12, 13, 14, 15, 16, 17, 18, 19] from rfl]
     simp only [ps, ga, pa, e19]
     clear e19
     have hT : Grows w85_ w85_ := Grows.refl _
     replace hg : Grows w74_ w85_ := hg.trans hT
     clear hT
     refine zaX ?_
     simp only [Exit.then]
     replace HXb1 := ab HXb1 hg
     replace HXb2 := ab HXb2 hg
     replace HB := hbm HB hg
     clear hg
     replace HC0 := cb PHC0 HB.out
     replace HC1_4 := cb PHC1_4 HB.out
     replace HC4_4 := cb PHC4_4 HB.out
     refine wp_cond_true q9 ?_
     refine wp_seq ?_
     refine rgt (N := 95) 2 ?_
     rw [show List.range 2 = [0, 1] from rfl]
     refine rgv (.bool t3) ?_ ?_
     ·
      intro a w' hr hs
      have h11 := hs.ov 11 (.bool t3)
      go_simp
     refine rgv (.bool t3) ?_ ?_
     ·
      intro a w' hr hs
      have h41 := hs.gv 0 rfl rfl
      go_simp
     intro vs w86_ hr hE
     have e1 : vs 1 = .bool t3 := hE _ (zbs 0 rfl)
     have hg : Grows w85_ w86_ := hr
     clear hE hr
     rw [show List.range 2 = [0, 1] from rfl]
     simp only [ps, ga, pa, e1]
     clear e1
     have hT : Grows w86_ w86_ := Grows.refl _
     replace hg : Grows w85_ w86_ := hg.trans hT
     clear hT
     refine zaX ?_
     simp only [Exit.then]
     replace HXb1 := ab HXb1 hg
     replace HXb2 := ab HXb2 hg
     replace HB := hbm HB hg
     clear hg
     replace HC0 := cb PHC0 HB.out
     replace HC1_4 := cb PHC1_4 HB.out
     replace HC4_4 := cb PHC4_4 HB.out
     obtain rfl := Option.some.inj h
     go_wp2_with fail
     go_ret
     exact ⟨rfl, HB.out⟩
    ·
     rw [if_neg q84] at h
     have q84a : (decide ((a2.size : Int) > 60)) = false := by simpa using q84
     have q84b : decide (60 < (a2.size : Int)) = false := q84a
     clear q84
     replace h := Option.bind_eq_some_iff.1 h
     obtain ⟨t11, F12, h⟩ := h
     try dsimp only at h
     replace F12 := zaa.mk F12
     refine rgt (N := 95) 20 ?_
     rw [show List.range 20 = [0, 1, 2, 3, 4, 5, 6, 7, 8, 9, 10, 11, 12, 13, 14, 15, 16, 17, 18, 19] from rfl]
     refine rgv (.slice A0 l0.length c0) ?_ ?_
     ·
      intro a w' hr hs
      have h0 := hs.ov 0 (.slice A0 l0.length c0)
      go_simp
     refine rgc (fun v _ => v = .bool false) Try.func19 ?_ ?_
     ·
      intro a w' hr hs
      have h21 := hs.gv 0 rfl rfl
      rw [show (#[Operand.tmp 21] : Array Operand).map a.eval = #[.slice A0 l0.length c0] by simp [Act.eval, h21]]
      refine (zah.calls k A0 c0 l0 false _ (Kd.zat HC0.out hr) hc0 F6.out).mono ?_
      rintro e w3 ⟨rfl, hb⟩
      exact ⟨_, rfl, hb, rfl⟩
     refine rgv (.bool false) ?_ ?_
     ·
      intro a w' hr hs
      have h22 := hs.gv 0 rfl rfl
      go_simp
     refine zaF (.agg #[.int .i64 a4_0, .int .i64 a4_1, .int .u64 a4_2, .string a4_3, .slice A4_4 l4_4.length c4_4]) Grows.refl rfl (fun a w hr hs => zax (g := 2) (t := 23) rfl rfl (hs.g 0)) ?_ ?_
     ·
      intro a w' hr hs
      have h9 := hs.ov 9 (.pointer (some ⟨b2_, 0, none⟩))
      have x := hr.at HXb2.out
      have x0 := zad x 0
      have x1 := zad x 1
      have x2 := zad x 2
      have x3 := zad x 3
      have x4 := zad x 4
      simp only [ga] at x0 x1 x2 x3 x4
      go_simp
     refine zbc (fun v _ => v = .bool false) (fun _ _ _ _ h => h) rfl rfl Try.func20 k9 rfl (fun a w hr hs => zax (g := 2) (t := 23) rfl rfl (hs.g 1)) ?_ ?_
     ·
      intro a w' hr hs
      have h24 := hs.gv 0 rfl rfl
      rw [show (#[Operand.tmp 24] : Array Operand).map a.eval = #[.agg #[.int .i64 a4_0, .int .i64 a4_1, .int .u64 a4_2, .string a4_3, .slice A4_4 l4_4.length c4_4]] by simp [Act.eval, h24]]
      refine (zak.calls k a4_0 a4_1 a4_2 a4_3 A4_4 c4_4 l4_4 false _ (Kd.zat HC4_4.out hr) hc4_4 F8.out).mono ?_
      rintro e w3 ⟨rfl, hb⟩
      exact ⟨_, rfl, hb, rfl⟩
     refine rgv (.bool false) ?_ ?_
     ·
      intro a w' hr hs
      have h23 := hs.gv 2 rfl rfl
      have h25 := hs.gv 0 rfl rfl
      go_simp
     refine rgv (.bool false) ?_ ?_
     ·
      intro a w' hr hs
      have h26 := hs.gv 0 rfl rfl
      go_simp
     refine zaF (.agg #[.int .i64 a1_0, .int .i64 a1_1, .int .u64 a1_2, .string a1_3, .slice A1_4 l1_4.length c1_4]) Grows.refl rfl (fun a w hr hs => zax (g := 6) (t := 27) rfl rfl (hs.g 0)) ?_ ?_
     ·
      intro a w' hr hs
      have h6 := hs.ov 6 (.pointer (some ⟨b1_, 0, none⟩))
      have x := hr.at HXb1.out
      have x0 := zad x 0
      have x1 := zad x 1
      have x2 := zad x 2
      have x3 := zad x 3
      have x4 := zad x 4
      simp only [ga] at x0 x1 x2 x3 x4
      go_simp
     refine zbc (fun v _ => v = .bool false) (fun _ _ _ _ h => h) rfl rfl Try.func20 k9 rfl (fun a w hr hs => zax (g := 6) (t := 27) rfl rfl (hs.g 1)) ?_ ?_
     ·
      intro a w' hr hs
      have h28 := hs.gv 0 rfl rfl
      rw [show (#[Operand.tmp 28] : Array Operand).map a.eval = #[.agg #[.int .i64 a1_0, .int .i64 a1_1, .int .u64 a1_2, .string a1_3, .slice A1_4 l1_4.length c1_4]] by simp [Act.eval, h28]]
      refine (zak.calls k a1_0 a1_1 a1_2 a1_3 A1_4 c1_4 l1_4 false _ (Kd.zat HC1_4.out hr) hc1_4 F10.out).mono ?_
      rintro e w3 ⟨rfl, hb⟩
      exact ⟨_, rfl, hb, rfl⟩
     refine rgv (.bool false) ?_ ?_
     ·
      intro a w' hr hs
      have h27 := hs.gv 2 rfl rfl
      have h29 := hs.gv 0 rfl rfl
      go_simp
     refine rgv (.bool false) ?_ ?_
     ·
      intro a w' hr hs
      have h30 := hs.gv 0 rfl rfl
      go_simp
     refine zaF (.string a2) Grows.refl rfl (fun a w hr hs => zax (g := 10) (t := 31) rfl rfl (hs.g 0)) ?_ ?_
     ·
      intro a w' hr hs
      have h2 := hs.ov 2 (.string a2)
      go_simp
     refine zaF (.int .i64 (a2.size : Int)) Grows.refl rfl (fun a w hr hs => zax (g := 10) (t := 31) rfl rfl (hs.g 1)) ?_ ?_
     ·
      intro a w' hr hs
      have h32 := hs.gv 0 rfl rfl
      go_simp
     refine zaF (.bool false) Grows.refl rfl (fun a w hr hs => zax (g := 10) (t := 31) rfl rfl (hs.g 2)) ?_ ?_
     ·
      intro a w' hr hs
      have h33 := hs.gv 0 rfl rfl
      go_simp
     refine rgv (.bool false) ?_ ?_
     ·
      intro a w' hr hs
      have h31 := hs.gv 3 rfl rfl
      have h34 := hs.gv 0 rfl rfl
      go_simp
     refine rgv (.bool false) ?_ ?_
     ·
      intro a w' hr hs
      have h35 := hs.gv 0 rfl rfl
      go_simp
     refine zaF (.pointer (some ⟨b1_, 4, none⟩)) Grows.refl rfl (fun a w hr hs => zax (g := 15) (t := 36) rfl rfl (hs.g 0)) ?_ ?_
     ·
      intro a w' hr hs
      have h6 := hs.ov 6 (.pointer (some ⟨b1_, 0, none⟩))
      go_simp
     refine zaF (.slice A1_4 l1_4.length c1_4) Grows.refl rfl (fun a w hr hs => zax (g := 15) (t := 36) rfl rfl (hs.g 1)) ?_ ?_
     ·
      intro a w' hr hs
      have h37 := hs.gv 0 rfl rfl
      have x := hr.at HXb1.out
      have x0 := zad x 0
      have x1 := zad x 1
      have x2 := zad x 2
      have x3 := zad x 3
      have x4 := zad x 4
      simp only [ga] at x0 x1 x2 x3 x4
      go_simp
     refine zbc (fun v _ => v = .bool t11) (fun _ _ _ _ h => h) rfl rfl Try.func21 k9 rfl (fun a w hr hs => zax (g := 15) (t := 36) rfl rfl (hs.g 2)) ?_ ?_
     ·
      intro a w' hr hs
      have h38 := hs.gv 0 rfl rfl
      rw [show (#[Operand.tmp 38] : Array Operand).map a.eval = #[.slice A1_4 l1_4.length c1_4] by simp [Act.eval, h38]]
      refine (zaw.calls k A1_4 c1_4 l1_4 t11 _ (Kd.zat HC1_4.out hr) hc1_4 F12.out).mono ?_
      rintro e w3 ⟨rfl, hb⟩
      exact ⟨_, rfl, hb.below, rfl⟩
     refine rgv (.bool t11) ?_ ?_
     ·
      intro a w' hr hs
      have h36 := hs.gv 3 rfl rfl
      have h39 := hs.gv 0 rfl rfl
      go_simp
     intro vs w87_ hr hE
     have e19 : vs 19 = .bool t11 := hE _ (zbs 0 rfl)
     have hg : Grows w74_ w87_ := hr
     clear hE hr
     rw [show List.range 20 = [0, 1, 2, 3, 4, 5, 6, 7, 8, 9, 10, 11, 12, 13, 14, 15, 16, 17, 18, 19] from rfl]
     simp only [ps, ga, pa, e19]
     clear e19
     have hT : Grows w87_ w87_ := Grows.refl _
     replace hg : Grows w74_ w87_ := hg.trans hT
     clear hT
     refine zaX ?_
     simp only [Exit.then]
     replace HXb1 := ab HXb1 hg
     replace HXb2 := ab HXb2 hg
     replace HB := hbm HB hg
     clear hg
     replace HC0 := cb PHC0 HB.out
     replace HC1_4 := cb PHC1_4 HB.out
     replace HC4_4 := cb PHC4_4 HB.out
     by_cases q88 : t11 = true
     ·
      rw [if_pos q88] at h
      obtain rfl : t11 = true := by simpa using q88
      refine wp_cond_true q9 ?_
      refine wp_seq ?_
      refine rgt (N := 95) 2 ?_
      rw [show List.range 2 = [0, 1] from rfl]
      refine rgv (.bool t3) ?_ ?_
      ·
       intro a w' hr hs
       have h11 := hs.ov 11 (.bool t3)
       go_simp
      refine rgv (.bool t3) ?_ ?_
      ·
       intro a w' hr hs
       have h41 := hs.gv 0 rfl rfl
       go_simp
      intro vs w89_ hr hE
      have e1 : vs 1 = .bool t3 := hE _ (zbs 0 rfl)
      have hg : Grows w87_ w89_ := hr
      clear hE hr
      rw [show List.range 2 = [0, 1] from rfl]
      simp only [ps, ga, pa, e1]
      clear e1
      have hT : Grows w89_ w89_ := Grows.refl _
      replace hg : Grows w87_ w89_ := hg.trans hT
      clear hT
      refine zaX ?_
      simp only [Exit.then]
      replace HXb1 := ab HXb1 hg
      replace HXb2 := ab HXb2 hg
      replace HB := hbm HB hg
      clear hg
      replace HC0 := cb PHC0 HB.out
      replace HC1_4 := cb PHC1_4 HB.out
      replace HC4_4 := cb PHC4_4 HB.out
      obtain rfl := Option.some.inj h
      go_wp2_with fail
      go_ret
      exact ⟨rfl, HB.out⟩
     ·
      rw [if_neg q88] at h
      obtain rfl : t11 = false := by simpa using q88
      refine wp_cond_false q9 ?_
      refine wp_skip ?_
      simp only [Exit.then]
      refine wp_seq ?_
      replace h := Option.bind_eq_some_iff.1 h
      obtain ⟨⟨t13, t14, t15, t16, t17, t18⟩, F19, h⟩ := h
      try dsimp only at h
      replace F19 := zaa.mk F19
      refine rgt (N := 95) 9 ?_
      rw [show List.range 9 = [0, 1, 2, 3, 4, 5, 6, 7, 8] from rfl]
      refine rgv (.slice A0 l0.length c0) ?_ ?_
      ·
       intro a w' hr hs
       have h0 := hs.ov 0 (.slice A0 l0.length c0)
       go_simp
      refine rgv (.agg #[.int .i64 a1_0, .int .i64 a1_1, .int .u64 a1_2, .string a1_3, .slice A1_4 l1_4.length c1_4]) ?_ ?_
      ·
       intro a w' hr hs
       have h6 := hs.ov 6 (.pointer (some ⟨b1_, 0, none⟩))
       have x := hr.at HXb1.out
       have x0 := zad x 0
       have x1 := zad x 1
       have x2 := zad x 2
       have x3 := zad x 3
       have x4 := zad x 4
       simp only [ga] at x0 x1 x2 x3 x4
       go_simp
      refine rgv (.string a2) ?_ ?_
      ·
       intro a w' hr hs
       have h2 := hs.ov 2 (.string a2)
       go_simp
      refine rgv (.int .i64 a3) ?_ ?_
      ·
       intro a w' hr hs
       have h3 := hs.ov 3 (.int .i64 a3)
       go_simp
      refine rgv (.agg #[.int .i64 a4_0, .int .i64 a4_1, .int .u64 a4_2, .string a4_3, .slice A4_4 l4_4.length c4_4]) ?_ ?_
      ·
       intro a w' hr hs
       have h9 := hs.ov 9 (.pointer (some ⟨b2_, 0, none⟩))
       have x := hr.at HXb2.out
       have x0 := zad x 0
       have x1 := zad x 1
       have x2 := zad x 2
       have x3 := zad x 3
       have x4 := zad x 4
       simp only [ga] at x0 x1 x2 x3 x4
       go_simp
      refine rgc (OneR k35 35 t17 (vT t13 t14 t15 t16 t18)) Try.func16 ?_ ?_
      ·
       intro a w' hr hs
       have h43 := hs.gv 4 rfl rfl
       have h44 := hs.gv 3 rfl rfl
       have h45 := hs.gv 2 rfl rfl
       have h46 := hs.gv 1 rfl rfl
       have h47 := hs.gv 0 rfl rfl
       rw [show (#[Operand.tmp 43, Operand.tmp 44, Operand.tmp 45, Operand.tmp 46, Operand.tmp 47, Operand.const (.bool false)] : Array Operand).map a.eval = #[.slice A0 l0.length c0, .agg #[.int .i64 a1_0, .int .i64 a1_1, .int .u64 a1_2, .string a1_3, .slice A1_4 l1_4.length c1_4], .string a2, .int .i64 a3, .agg #[.int .i64 a4_0, .int .i64 a4_1, .int .u64 a4_2, .string a4_3, .slice A4_4 l4_4.length c4_4], .bool false] by simp [Act.eval, h43, h44, h45, h46, h47]]
       refine (zbe.calls k A0 c0 l0 a1_0 a1_1 a1_2 a1_3 A1_4 c1_4 l1_4 a2 a3 a4_0 a4_1 a4_2 a4_3 A4_4 c4_4 l4_4 false t13 t14 t15 t16 t17 t18 _ (Kd.zat HC0.out hr) hc0 (Kd.zat HC1_4.out hr) hc1_4 (Kd.zat HC4_4.out hr) hc4_4 F19.out).mono ?_
       rintro e w3 ⟨v, rfl, hR, hb⟩
       exact ⟨_, rfl, hb, OneR.of hR⟩
      refine rgk (OneR k35 35 t17 (vT t13 t14 t15 t16 t18)) ?_ ?_
      ·
       intro a w' hr hs
       obtain ⟨A48, c48, h48, hc48, hC48, hR48⟩ := hs.rd 0 rfl rfl
       simp only [vT] at h48
       exact ⟨.tuple #[.agg #[.int .i64 t13, .int .i64 t14, .int .u64 t15, .string t16, .slice A48 t17.length c48], .int .i64 t18], by go_simp, _, rfl, hR48⟩
      refine rgk (OneR k35 35 t17 (vA t13 t14 t15 t16)) ?_ ?_
      ·
       intro a w' hr hs
       obtain ⟨A42, c42, h42, hc42, hC42, hR42⟩ := hs.rd 0 rfl rfl
       simp only [vT] at h42
       exact ⟨.agg #[.int .i64 t13, .int .i64 t14, .int .u64 t15, .string t16, .slice A42 t17.length c42], by go_simp, _, rfl, hR42⟩
      refine rgv (.int .i64 t18) ?_ ?_
      ·
       intro a w' hr hs
       obtain ⟨A42, c42, h42, hc42, hC42, hR42⟩ := hs.rd 1 rfl rfl
       simp only [vT] at h42
       go_simp
      intro vs w90_ hr hE
      have g_ : OneR k35 35 t17 (vA t13 t14 t15 t16) (vs 7) w90_ := hE _ (zbs 1 rfl)
      obtain ⟨Au91, cu91, e7, hcu91, hCu91, hRu91⟩ := g_.reads
      clear g_
      replace e7 : vs 7 = .agg #[.int .i64 t13, .int .i64 t14, .int .u64 t15, .string t16, .slice Au91 t17.length cu91] := e7
      have HCu91 := zaa.mk hCu91
      clear hCu91
      have HRu91 := zaa.mk hRu91
      clear hRu91
      have e8 : vs 8 = .int .i64 t18 := hE _ (zbs 0 rfl)
      have hg : Grows w87_ w90_ := hr
      clear hE hr
      rw [show List.range 9 = [0, 1, 2, 3, 4, 5, 6, 7, 8] from rfl]
      simp only [ps, ga, pa, e7, e8]
      clear e7 e8
      have hT : Grows w90_ w90_ := Grows.refl _
      obtain ⟨w90_a, hw90_a⟩ : ∃ W, W = w90_.alloc (.cells #[.int .i64 0, .int .i64 0, .int .u64 0, .string (⟨#[]⟩ : ByteArray), .slice none 0 0] 27) := ⟨_, rfl⟩
      obtain ⟨b20_, hb20_⟩ : ∃ n, n = w90_.heap.size := ⟨_, rfl⟩
      refine zbv (i := 9) (r := [10, 11]) (w' := w90_a) 12 (.pointer (some ⟨b20_, 0, none⟩)) rfl rfl (zae rfl) (by rw [hw90_a, hb20_]; go_simp) ?_
      simp only [pa]
      have HXb20 : w90_a.heap[b20_]? = some (.cells #[.int .i64 0, .int .i64 0, .int .u64 0, .string (⟨#[]⟩ : ByteArray), .slice none 0 0] 27 (0, 0)) := by rw [hw90_a, hb20_]; exact at_new _ _ rfl
      replace HXb20 := zaa.mk HXb20
      have hlb20 : w90_.heap.size ≤ b20_ := by rw [hb20_]; exact hT.size
      replace hT : Grows w90_ w90_a := by rw [hw90_a]; exact hT.trans (Grows.alloc _ _)
      clear hw90_a hb20_
      have hwb20 : w.heap.size ≤ b20_ := Nat.le_trans (Nat.le_trans HB.out.size hg.size) hlb20
      have hneb1b20 : b1_ ≠ b20_ := by have h1 := zai HXb1.out; have h2 := hg.size; omega
      have hneb2b20 : b2_ ≠ b20_ := by have h1 := zai HXb2.out; have h2 := hg.size; omega
      have z0 := zad HXb20.out 0
      have f0 := free_at HXb20.out 0
      have z1 := zad HXb20.out 1
      have f1 := free_at HXb20.out 1
      have z2 := zad HXb20.out 2
      have f2 := free_at HXb20.out 2
      have z3 := zad HXb20.out 3
      have f3 := free_at HXb20.out 3
      have z4 := zad HXb20.out 4
      have f4 := free_at HXb20.out 4
      simp only [ga] at z0 z1 z2 z3 z4
      obtain ⟨w90_as, hw90_as⟩ : ∃ W, W = (((((w90_a.setCell ⟨b20_, 0, none⟩ (.int .i64 t13)).setCell ⟨b20_, 1, none⟩ (.int .i64 t14)).setCell ⟨b20_, 2, none⟩ (.int .u64 t15)).setCell ⟨b20_, 3, none⟩ (.string t16)).setCell ⟨b20_, 4, none⟩ (.slice Au91 t17.length cu91)) := ⟨_, rfl⟩
      refine zcT (i := 10) (r := [11]) (w' := w90_as) rfl rfl (zae rfl) (by rw [hw90_as]; go_simp) ?_
      clear z0 z1 z2 z3 z4 f0 f1 f2 f3 f4
      have hX_ : w90_as.heap[b20_]? = some (.cells #[.int .i64 t13, .int .i64 t14, .int .u64 t15, .string t16, .slice Au91 t17.length cu91] 27 (0, 0)) := by rw [hw90_as]; exact (zaf (zaf (zaf (zaf (zaf HXb20.out 0 (.int .i64 t13) rfl) 1 (.int .i64 t14) rfl) 2 (.int .u64 t15) rfl) 3 (.string t16) rfl) 4 (.slice Au91 t17.length cu91) rfl)
      replace HXb20 := zaa.mk hX_
      clear hX_
      replace hT : Grows w90_ w90_as := by rw [hw90_as]; exact (setB (setB (setB (setB (setB hT hlb20 (.int .i64 t13)) hlb20 (.int .i64 t14)) hlb20 (.int .u64 t15)) hlb20 (.string t16)) hlb20 (.slice Au91 t17.length cu91))
      clear hw90_as
      refine zbv (i := 11) (r := []) (w' := w90_as) 13 (.int .i64 t18) rfl rfl (zae rfl) q9 ?_
      simp only [pa]
      replace HCu91 := cb HCu91 hT
      replace HRu91 := rb HRu91 hT
      replace hg : Grows w87_ w90_as := hg.trans hT
      clear hT
      refine zaX ?_
      simp only [Exit.then]
      replace HXb1 := ab HXb1 hg
      replace HXb2 := ab HXb2 hg
      replace HB := hbm HB hg
      clear hg
      replace HC0 := cb PHC0 HB.out
      replace HC1_4 := cb PHC1_4 HB.out
      replace HC4_4 := cb PHC4_4 HB.out
      refine wp_seq ?_
      replace h := Option.bind_eq_some_iff.1 h
      obtain ⟨⟨t21, t22, t23, t24, t25⟩, F26, h⟩ := h
      try dsimp only at h
      replace F26 := zaa.mk F26
      replace h := Option.bind_eq_some_iff.1 h
      obtain ⟨⟨t27, t28, t29, t30, t31⟩, F32, h⟩ := h
      try dsimp only at h
      replace F32 := zaa.mk F32
      replace h := Option.bind_eq_some_iff.1 h
      obtain ⟨⟨t33, t34, t35, t36, t37, t38⟩, F39, h⟩ := h
      try dsimp only at h
      replace F39 := zaa.mk F39
      refine zcB (N := 95) 12 [10] Grows k9 k9 rfl Grows.refl Grows.trans rfl rfl rfl rfl k9 ?_
      rw [show List.range 12 = [0, 1, 2, 3, 4, 5, 6, 7, 8, 9, 10, 11] from rfl]
      refine rglv (.slice A0 l0.length c0) ?_ ?_
      ·
       intro a w' hr hs
       have h0 := hs.ov 0 (.slice A0 l0.length c0)
       go_simp
      refine rglv (.agg #[.int .i64 a1_0, .int .i64 a1_1, .int .u64 a1_2, .string a1_3, .slice A1_4 l1_4.length c1_4]) ?_ ?_
      ·
       intro a w' hr hs
       have h6 := hs.ov 6 (.pointer (some ⟨b1_, 0, none⟩))
       have x := hr.at (zcd HXb1.out)
       have x0 := zad x 0
       have x1 := zad x 1
       have x2 := zad x 2
       have x3 := zad x 3
       have x4 := zad x 4
       simp only [ga] at x0 x1 x2 x3 x4
       go_simp
      refine zbW (OneR k35 35 t25 (vA t21 t22 t23 t24)) OneR.grows rfl rfl Try.func22 k9 rfl (fun _ _ _ _ => zae rfl) ?_ ?_
      ·
       intro a w' hr hs
       have h53 := hs.gv 0 rfl rfl
       rw [show (#[Operand.tmp 53] : Array Operand).map a.eval = #[.agg #[.int .i64 a1_0, .int .i64 a1_1, .int .u64 a1_2, .string a1_3, .slice A1_4 l1_4.length c1_4]] by simp [Act.eval, h53]]
       refine (zaN.calls a1_0 a1_1 a1_2 a1_3 A1_4 c1_4 l1_4 t21 t22 t23 t24 t25 _ (Kd.zat (Kd.zbu HC1_4.out) hr) hc1_4 F26.out).mono ?_
       rintro e w3 ⟨v, rfl, hR, hb⟩
       exact ⟨_, rfl, hb, OneR.of hR⟩
      refine rglv (.string a2) ?_ ?_
      ·
       intro a w' hr hs
       have h2 := hs.ov 2 (.string a2)
       go_simp
      refine rglv (.int .i64 a3) ?_ ?_
      ·
       intro a w' hr hs
       have h3 := hs.ov 3 (.int .i64 a3)
       go_simp
      refine rglv (.agg #[.int .i64 a4_0, .int .i64 a4_1, .int .u64 a4_2, .string a4_3, .slice A4_4 l4_4.length c4_4]) ?_ ?_
      ·
       intro a w' hr hs
       have h9 := hs.ov 9 (.pointer (some ⟨b2_, 0, none⟩))
       have x := hr.at (zcd HXb2.out)
       have x0 := zad x 0
       have x1 := zad x 1
       have x2 := zad x 2
       have x3 := zad x 3
       have x4 := zad x 4
       simp only [ga] at x0 x1 x2 x3 x4
       go_simp
      refine zbW (OneR k35 35 t31 (vA t27 t28 t29 t30)) OneR.grows rfl rfl Try.func22 k9 rfl (fun _ _ _ _ => zae rfl) ?_ ?_
      ·
       intro a w' hr hs
       have h57 := hs.gv 0 rfl rfl
       rw [show (#[Operand.tmp 57] : Array Operand).map a.eval = #[.agg #[.int .i64 a4_0, .int .i64 a4_1, .int .u64 a4_2, .string a4_3, .slice A4_4 l4_4.length c4_4]] by simp [Act.eval, h57]]
       refine (zaN.calls a4_0 a4_1 a4_2 a4_3 A4_4 c4_4 l4_4 t27 t28 t29 t30 t31 _ (Kd.zat (Kd.zbu HC4_4.out) hr) hc4_4 F32.out).mono ?_
       rintro e w3 ⟨v, rfl, hR, hb⟩
       exact ⟨_, rfl, hb, OneR.of hR⟩
      refine zbW (OneR k35 35 t37 (vT t33 t34 t35 t36 t38)) OneR.grows rfl rfl Try.func16 k9 rfl (fun _ _ _ _ => zae rfl) ?_ ?_
      ·
       intro a w' hr hs
       have h52 := hs.gv 6 rfl rfl
       obtain ⟨A54, c54, h54, hc54, hC54, hR54⟩ := hs.rd 4 rfl rfl
       simp only [vA] at h54
       have h55 := hs.gv 3 rfl rfl
       have h56 := hs.gv 2 rfl rfl
       obtain ⟨A58, c58, h58, hc58, hC58, hR58⟩ := hs.rd 0 rfl rfl
       simp only [vA] at h58
       rw [show (#[Operand.tmp 52, Operand.tmp 54, Operand.tmp 55, Operand.tmp 56, Operand.tmp 58, Operand.const (.bool true)] : Array Operand).map a.eval = #[.slice A0 l0.length c0, .agg #[.int .i64 t21, .int .i64 t22, .int .u64 t23, .string t24, .slice A54 t25.length c54], .string a2, .int .i64 a3, .agg #[.int .i64 t27, .int .i64 t28, .int .u64 t29, .string t30, .slice A58 t31.length c58], .bool true] by simp [Act.eval, h52, h54, h55, h56, h58]]
       refine (zbe.calls k A0 c0 l0 t21 t22 t23 t24 A54 c54 t25 a2 a3 t27 t28 t29 t30 A58 c58 t31 true t33 t34 t35 t36 t37 t38 _ (Kd.zat (Kd.zbu HC0.out) hr) hc0 hC54 hc54 hC58 hc58 F39.out).mono ?_
       rintro e w3 ⟨v, rfl, hR, hb⟩
       exact ⟨_, rfl, hb, OneR.of hR⟩
      refine zcc (OneR k35 35 t37 (vT t33 t34 t35 t36 t38)) OneR.grows Grows.refl rfl (fun _ _ _ _ => zae rfl) ?_ ?_
      ·
       intro a w' hr hs
       obtain ⟨A59, c59, h59, hc59, hC59, hR59⟩ := hs.rd 0 rfl rfl
       simp only [vT] at h59
       exact ⟨.tuple #[.agg #[.int .i64 t33, .int .i64 t34, .int .u64 t35, .string t36, .slice A59 t37.length c59], .int .i64 t38], by go_simp, _, rfl, hR59⟩
      refine zcc (OneR k35 35 t37 (vA t33 t34 t35 t36)) OneR.grows Grows.refl rfl (fun _ _ _ _ => zae rfl) ?_ ?_
      ·
       intro a w' hr hs
       obtain ⟨A51, c51, h51, hc51, hC51, hR51⟩ := hs.rd 0 rfl rfl
       simp only [vT] at h51
       exact ⟨.agg #[.int .i64 t33, .int .i64 t34, .int .u64 t35, .string t36, .slice A51 t37.length c51], by go_simp, _, rfl, hR51⟩
      refine zdl (.int .i64 t38) Grows.refl rfl (fun _ _ _ _ => zae rfl) ?_ ?_
      ·
       intro a w' hr hs w3
       obtain ⟨A51, c51, h51, hc51, hC51, hR51⟩ := hs.rd 1 rfl rfl
       simp only [vT] at h51
       go_simp
      refine zdv (Boxed #[.int .i64 0, .int .i64 0, .int .u64 0, .string (⟨#[]⟩ : ByteArray), .slice none 0 0] 27 w90_as.heap.size) Boxed.grows rfl (fun _ _ _ _ => zae rfl) ?_ ?_
      ·
       intro a w' hr hs
       exact ⟨_, _, by go_simp, Grows.alloc _ _, Boxed.new hr.size⟩
      intro vs w92_ hr hE
      have g_ : OneR k35 35 t37 (vA t33 t34 t35 t36) (vs 9) w92_ := hE _ (zbs 2 rfl)
      obtain ⟨Au93, cu93, e9, hcu93, hCu93, hRu93⟩ := g_.reads
      clear g_
      replace e9 : vs 9 = .agg #[.int .i64 t33, .int .i64 t34, .int .u64 t35, .string t36, .slice Au93 t37.length cu93] := e9
      have HCu93 := zaa.mk hCu93
      clear hCu93
      have HRu93 := zaa.mk hRu93
      clear hRu93
      have e10 : vs 10 = .int .i64 t38 := hE _ (zbs 1 rfl)
      obtain ⟨b40_, e11, HXb40, hlb40⟩ := hE _ (zbs 0 rfl)
      replace HXb40 := zaa.mk HXb40
      have hwb40 : w.heap.size ≤ b40_ := Nat.le_trans HB.out.size hlb40
      have hneb1b40 : b1_ ≠ b40_ := by have := zai HXb1.out; omega
      have hneb2b40 : b2_ ≠ b40_ := by have := zai HXb2.out; omega
      have hneb20b40 : b20_ ≠ b40_ := by have := zai HXb20.out; omega
      have hg : Grows w90_as w92_ := Below.trans (Below.refl w90_as.heap.size w90_as).drew hr
      clear hE hr
      rw [show List.range 12 = [0, 1, 2, 3, 4, 5, 6, 7, 8, 9, 10, 11] from rfl]
      simp only [ps, ga, pa, e9, e10, e11]
      clear e9 e10 e11
      have z0 := zad HXb40.out 0
      have f0 := free_at HXb40.out 0
      have z1 := zad HXb40.out 1
      have f1 := free_at HXb40.out 1
      have z2 := zad HXb40.out 2
      have f2 := free_at HXb40.out 2
      have z3 := zad HXb40.out 3
      have f3 := free_at HXb40.out 3
      have z4 := zad HXb40.out 4
      have f4 := free_at HXb40.out 4
      simp only [ga] at z0 z1 z2 z3 z4
      obtain ⟨w92_s, hw92_s⟩ : ∃ W, W = (((((w92_.setCell ⟨b40_, 0, none⟩ (.int .i64 t33)).setCell ⟨b40_, 1, none⟩ (.int .i64 t34)).setCell ⟨b40_, 2, none⟩ (.int .u64 t35)).setCell ⟨b40_, 3, none⟩ (.string t36)).setCell ⟨b40_, 4, none⟩ (.slice Au93 t37.length cu93)) := ⟨_, rfl⟩
      refine ⟨_, w92_s, rfl, by rw [hw92_s]; go_simp, ?_⟩
      clear z0 z1 z2 z3 z4 f0 f1 f2 f3 f4
      have hR_ := (Kd.R_set (Kd.R_set (Kd.R_set (Kd.R_set (Kd.R_set HRu93.out HXb40.out d9 0 (.int .i64 t33)) (zaf HXb40.out 0 (.int .i64 t33) rfl) d9 1 (.int .i64 t34)) (zaf (zaf HXb40.out 0 (.int .i64 t33) rfl) 1 (.int .i64 t34) rfl) d9 2 (.int .u64 t35)) (zaf (zaf (zaf HXb40.out 0 (.int .i64 t33) rfl) 1 (.int .i64 t34) rfl) 2 (.int .u64 t35) rfl) d9 3 (.string t36)) (zaf (zaf (zaf (zaf HXb40.out 0 (.int .i64 t33) rfl) 1 (.int .i64 t34) rfl) 2 (.int .u64 t35) rfl) 3 (.string t36) rfl) d9 4 (.slice Au93 t37.length cu93))
      rw [← hw92_s] at hR_
      have HCu93 := zaa.mk (Kd.zbn hR_).2.2
      replace HRu93 := zaa.mk hR_
      clear hR_
      have hX_ : w92_s.heap[b40_]? = some (.cells #[.int .i64 t33, .int .i64 t34, .int .u64 t35, .string t36, .slice Au93 t37.length cu93] 27 (0, 0)) := by rw [hw92_s]; exact (zaf (zaf (zaf (zaf (zaf HXb40.out 0 (.int .i64 t33) rfl) 1 (.int .i64 t34) rfl) 2 (.int .u64 t35) rfl) 3 (.string t36) rfl) 4 (.slice Au93 t37.length cu93) rfl)
      replace HXb40 := zaa.mk hX_
      clear hX_
      replace hg : Grows w90_as w92_s := by rw [hw92_s]; exact (setB (setB (setB (setB (setB hg hlb40 (.int .i64 t33)) hlb40 (.int .i64 t34)) hlb40 (.int .u64 t35)) hlb40 (.string t36)) hlb40 (.slice Au93 t37.length cu93))
      clear hw92_s
      refine zbv (i := 13) (r := []) (w' := w92_s) 15 (.int .i64 t38) rfl rfl (zae rfl) q9 ?_
      simp only [pa]
      refine zaX ?_
      simp only [Exit.then]
      replace HCu91 := cb HCu91 hg
      replace HRu91 := rb HRu91 hg
      replace HXb1 := ab HXb1 hg
      replace HXb2 := ab HXb2 hg
      replace HXb20 := ab HXb20 hg
      replace HB := hbm HB hg
      clear hg
      replace HC0 := cb PHC0 HB.out
      replace HC1_4 := cb PHC1_4 HB.out
      replace HC4_4 := cb PHC4_4 HB.out
      refine wp_seq ?_
      replace h := Option.bind_eq_some_iff.1 h
      obtain ⟨⟨t41, t42, t43, t44, t45, t46⟩, F47, h⟩ := h
      try dsimp only at h
      replace F47 := zaa.mk F47
      refine rgt (N := 95) 8 ?_
      rw [show List.range 8 = [0, 1, 2, 3, 4, 5, 6, 7] from rfl]
      refine rgv (.slice A0 l0.length c0) ?_ ?_
      ·
       intro a w' hr hs
       have h0 := hs.ov 0 (.slice A0 l0.length c0)
       go_simp
      refine rgv (.agg #[.int .i64 a1_0, .int .i64 a1_1, .int .u64 a1_2, .string a1_3, .slice A1_4 l1_4.length c1_4]) ?_ ?_
      ·
       intro a w' hr hs
       have h6 := hs.ov 6 (.pointer (some ⟨b1_, 0, none⟩))
       have x := hr.at HXb1.out
       have x0 := zad x 0
       have x1 := zad x 1
       have x2 := zad x 2
       have x3 := zad x 3
       have x4 := zad x 4
       simp only [ga] at x0 x1 x2 x3 x4
       go_simp
      refine rgv (.string a2) ?_ ?_
      ·
       intro a w' hr hs
       have h2 := hs.ov 2 (.string a2)
       go_simp
      refine rgv (.agg #[.int .i64 a4_0, .int .i64 a4_1, .int .u64 a4_2, .string a4_3, .slice A4_4 l4_4.length c4_4]) ?_ ?_
      ·
       intro a w' hr hs
       have h9 := hs.ov 9 (.pointer (some ⟨b2_, 0, none⟩))
       have x := hr.at HXb2.out
       have x0 := zad x 0
       have x1 := zad x 1
       have x2 := zad x 2
       have x3 := zad x 3
       have x4 := zad x 4
       simp only [ga] at x0 x1 x2 x3 x4
       go_simp
      refine rgc (OneR k35 35 t45 (vT t41 t42 t43 t44 t46)) Try.func23 ?_ ?_
      ·
       intro a w' hr hs
       have h63 := hs.gv 3 rfl rfl
       have h64 := hs.gv 2 rfl rfl
       have h65 := hs.gv 1 rfl rfl
       have h66 := hs.gv 0 rfl rfl
       rw [show (#[Operand.tmp 63, Operand.tmp 64, Operand.tmp 65, Operand.tmp 66, Operand.const (.bool false)] : Array Operand).map a.eval = #[.slice A0 l0.length c0, .agg #[.int .i64 a1_0, .int .i64 a1_1, .int .u64 a1_2, .string a1_3, .slice A1_4 l1_4.length c1_4], .string a2, .agg #[.int .i64 a4_0, .int .i64 a4_1, .int .u64 a4_2, .string a4_3, .slice A4_4 l4_4.length c4_4], .bool false] by simp [Act.eval, h63, h64, h65, h66]]
       refine (zbk.calls k A0 c0 l0 a1_0 a1_1 a1_2 a1_3 A1_4 c1_4 l1_4 a2 a4_0 a4_1 a4_2 a4_3 A4_4 c4_4 l4_4 false t41 t42 t43 t44 t45 t46 _ (Kd.zat HC0.out hr) hc0 (Kd.zat HC1_4.out hr) hc1_4 (Kd.zat HC4_4.out hr) hc4_4 F47.out).mono ?_
       rintro e w3 ⟨v, rfl, hR, hb⟩
       exact ⟨_, rfl, hb, OneR.of hR⟩
      refine rgk (OneR k35 35 t45 (vT t41 t42 t43 t44 t46)) ?_ ?_
      ·
       intro a w' hr hs
       obtain ⟨A67, c67, h67, hc67, hC67, hR67⟩ := hs.rd 0 rfl rfl
       simp only [vT] at h67
       exact ⟨.tuple #[.agg #[.int .i64 t41, .int .i64 t42, .int .u64 t43, .string t44, .slice A67 t45.length c67], .int .i64 t46], by go_simp, _, rfl, hR67⟩
      refine rgk (OneR k35 35 t45 (vA t41 t42 t43 t44)) ?_ ?_
      ·
       intro a w' hr hs
       obtain ⟨A62, c62, h62, hc62, hC62, hR62⟩ := hs.rd 0 rfl rfl
       simp only [vT] at h62
       exact ⟨.agg #[.int .i64 t41, .int .i64 t42, .int .u64 t43, .string t44, .slice A62 t45.length c62], by go_simp, _, rfl, hR62⟩
      refine rgv (.int .i64 t46) ?_ ?_
      ·
       intro a w' hr hs
       obtain ⟨A62, c62, h62, hc62, hC62, hR62⟩ := hs.rd 1 rfl rfl
       simp only [vT] at h62
       go_simp
      intro vs w94_ hr hE
      have g_ : OneR k35 35 t45 (vA t41 t42 t43 t44) (vs 6) w94_ := hE _ (zbs 1 rfl)
      obtain ⟨Au95, cu95, e6, hcu95, hCu95, hRu95⟩ := g_.reads
      clear g_
      replace e6 : vs 6 = .agg #[.int .i64 t41, .int .i64 t42, .int .u64 t43, .string t44, .slice Au95 t45.length cu95] := e6
      have HCu95 := zaa.mk hCu95
      clear hCu95
      have HRu95 := zaa.mk hRu95
      clear hRu95
      have e7 : vs 7 = .int .i64 t46 := hE _ (zbs 0 rfl)
      have hg : Grows w92_s w94_ := hr
      clear hE hr
      rw [show List.range 8 = [0, 1, 2, 3, 4, 5, 6, 7] from rfl]
      simp only [ps, ga, pa, e6, e7]
      clear e6 e7
      have hT : Grows w94_ w94_ := Grows.refl _
      obtain ⟨w94_a, hw94_a⟩ : ∃ W, W = w94_.alloc (.cells #[.int .i64 0, .int .i64 0, .int .u64 0, .string (⟨#[]⟩ : ByteArray), .slice none 0 0] 27) := ⟨_, rfl⟩
      obtain ⟨b48_, hb48_⟩ : ∃ n, n = w94_.heap.size := ⟨_, rfl⟩
      refine zbv (i := 8) (r := [9, 10]) (w' := w94_a) 16 (.pointer (some ⟨b48_, 0, none⟩)) rfl rfl (zae rfl) (by rw [hw94_a, hb48_]; go_simp) ?_
      simp only [pa]
      have HXb48 : w94_a.heap[b48_]? = some (.cells #[.int .i64 0, .int .i64 0, .int .u64 0, .string (⟨#[]⟩ : ByteArray), .slice none 0 0] 27 (0, 0)) := by rw [hw94_a, hb48_]; exact at_new _ _ rfl
      replace HXb48 := zaa.mk HXb48
      have hlb48 : w94_.heap.size ≤ b48_ := by rw [hb48_]; exact hT.size
      replace hT : Grows w94_ w94_a := by rw [hw94_a]; exact hT.trans (Grows.alloc _ _)
      clear hw94_a hb48_
      have hwb48 : w.heap.size ≤ b48_ := Nat.le_trans (Nat.le_trans HB.out.size hg.size) hlb48
      have hneb1b48 : b1_ ≠ b48_ := by have h1 := zai HXb1.out; have h2 := hg.size; omega
      have hneb2b48 : b2_ ≠ b48_ := by have h1 := zai HXb2.out; have h2 := hg.size; omega
      have hneb20b48 : b20_ ≠ b48_ := by have h1 := zai HXb20.out; have h2 := hg.size; omega
      have hneb40b48 : b40_ ≠ b48_ := by have h1 := zai HXb40.out; have h2 := hg.size; omega
      have z0 := zad HXb48.out 0
      have f0 := free_at HXb48.out 0
      have z1 := zad HXb48.out 1
      have f1 := free_at HXb48.out 1
      have z2 := zad HXb48.out 2
      have f2 := free_at HXb48.out 2
      have z3 := zad HXb48.out 3
      have f3 := free_at HXb48.out 3
      have z4 := zad HXb48.out 4
      have f4 := free_at HXb48.out 4
      simp only [ga] at z0 z1 z2 z3 z4
      obtain ⟨w94_as, hw94_as⟩ : ∃ W, W = (((((w94_a.setCell ⟨b48_, 0, none⟩ (.int .i64 t41)).setCell ⟨b48_, 1, none⟩ (.int .i64 t42)).setCell ⟨b48_, 2, none⟩ (.int .u64 t43)).setCell ⟨b48_, 3, none⟩ (.string t44)).setCell ⟨b48_, 4, none⟩ (.slice Au95 t45.length cu95)) := ⟨_, rfl⟩
      refine zcT (i := 9) (r := [10]) (w' := w94_as) rfl rfl (zae rfl) (by rw [hw94_as]; go_simp) ?_
      clear z0 z1 z2 z3 z4 f0 f1 f2 f3 f4
      have hX_ : w94_as.heap[b48_]? = some (.cells #[.int .i64 t41, .int .i64 t42, .int .u64 t43, .string t44, .slice Au95 t45.length cu95] 27 (0, 0)) := by rw [hw94_as]; exact (zaf (zaf (zaf (zaf (zaf HXb48.out 0 (.int .i64 t41) rfl) 1 (.int .i64 t42) rfl) 2 (.int .u64 t43) rfl) 3 (.string t44) rfl) 4 (.slice Au95 t45.length cu95) rfl)
      replace HXb48 := zaa.mk hX_
      clear hX_
      replace hT : Grows w94_ w94_as := by rw [hw94_as]; exact (setB (setB (setB (setB (setB hT hlb48 (.int .i64 t41)) hlb48 (.int .i64 t42)) hlb48 (.int .u64 t43)) hlb48 (.string t44)) hlb48 (.slice Au95 t45.length cu95))
      clear hw94_as
      refine zbv (i := 10) (r := []) (w' := w94_as) 17 (.int .i64 t46) rfl rfl (zae rfl) q9 ?_
      simp only [pa]
      replace HCu95 := cb HCu95 hT
      replace HRu95 := rb HRu95 hT
      replace hg : Grows w92_s w94_as := hg.trans hT
      clear hT
      refine zaX ?_
      simp only [Exit.then]
      replace HCu91 := cb HCu91 hg
      replace HRu91 := rb HRu91 hg
      replace HCu93 := cb HCu93 hg
      replace HRu93 := rb HRu93 hg
      replace HXb1 := ab HXb1 hg
      replace HXb2 := ab HXb2 hg
      replace HXb20 := ab HXb20 hg
      replace HXb40 := ab HXb40 hg
      replace HB := hbm HB hg
      clear hg
      replace HC0 := cb PHC0 HB.out
      replace HC1_4 := cb PHC1_4 HB.out
      replace HC4_4 := cb PHC4_4 HB.out
      refine wp_seq ?_
      replace h := Option.bind_eq_some_iff.1 h
      obtain ⟨⟨t49, t50, t51, t52, t53⟩, F54, h⟩ := h
      try dsimp only at h
      replace F54 := zaa.mk F54
      replace h := Option.bind_eq_some_iff.1 h
      obtain ⟨⟨t55, t56, t57, t58, t59⟩, F60, h⟩ := h
      try dsimp only at h
      replace F60 := zaa.mk F60
      replace h := Option.bind_eq_some_iff.1 h
      obtain ⟨⟨t61, t62, t63, t64, t65, t66⟩, F67, h⟩ := h
      try dsimp only at h
      replace F67 := zaa.mk F67
      refine zcB (N := 95) 11 [9] Grows k9 k9 rfl Grows.refl Grows.trans rfl rfl rfl rfl k9 ?_
      rw [show List.range 11 = [0, 1, 2, 3, 4, 5, 6, 7, 8, 9, 10] from rfl]
      refine rglv (.slice A0 l0.length c0) ?_ ?_
      ·
       intro a w' hr hs
       have h0 := hs.ov 0 (.slice A0 l0.length c0)
       go_simp
      refine rglv (.agg #[.int .i64 a1_0, .int .i64 a1_1, .int .u64 a1_2, .string a1_3, .slice A1_4 l1_4.length c1_4]) ?_ ?_
      ·
       intro a w' hr hs
       have h6 := hs.ov 6 (.pointer (some ⟨b1_, 0, none⟩))
       have x := hr.at (zcd HXb1.out)
       have x0 := zad x 0
       have x1 := zad x 1
       have x2 := zad x 2
       have x3 := zad x 3
       have x4 := zad x 4
       simp only [ga] at x0 x1 x2 x3 x4
       go_simp
      refine zbW (OneR k35 35 t53 (vA t49 t50 t51 t52)) OneR.grows rfl rfl Try.func22 k9 rfl (fun _ _ _ _ => zae rfl) ?_ ?_
      ·
       intro a w' hr hs
       have h72 := hs.gv 0 rfl rfl
       rw [show (#[Operand.tmp 72] : Array Operand).map a.eval = #[.agg #[.int .i64 a1_0, .int .i64 a1_1, .int .u64 a1_2, .string a1_3, .slice A1_4 l1_4.length c1_4]] by simp [Act.eval, h72]]
       refine (zaN.calls a1_0 a1_1 a1_2 a1_3 A1_4 c1_4 l1_4 t49 t50 t51 t52 t53 _ (Kd.zat (Kd.zbu HC1_4.out) hr) hc1_4 F54.out).mono ?_
       rintro e w3 ⟨v, rfl, hR, hb⟩
       exact ⟨_, rfl, hb, OneR.of hR⟩
      refine rglv (.string a2) ?_ ?_
      ·
       intro a w' hr hs
       have h2 := hs.ov 2 (.string a2)
       go_simp
      refine rglv (.agg #[.int .i64 a4_0, .int .i64 a4_1, .int .u64 a4_2, .string a4_3, .slice A4_4 l4_4.length c4_4]) ?_ ?_
      ·
       intro a w' hr hs
       have h9 := hs.ov 9 (.pointer (some ⟨b2_, 0, none⟩))
       have x := hr.at (zcd HXb2.out)
       have x0 := zad x 0
       have x1 := zad x 1
       have x2 := zad x 2
       have x3 := zad x 3
       have x4 := zad x 4
       simp only [ga] at x0 x1 x2 x3 x4
       go_simp
      refine zbW (OneR k35 35 t59 (vA t55 t56 t57 t58)) OneR.grows rfl rfl Try.func22 k9 rfl (fun _ _ _ _ => zae rfl) ?_ ?_
      ·
       intro a w' hr hs
       have h75 := hs.gv 0 rfl rfl
       rw [show (#[Operand.tmp 75] : Array Operand).map a.eval = #[.agg #[.int .i64 a4_0, .int .i64 a4_1, .int .u64 a4_2, .string a4_3, .slice A4_4 l4_4.length c4_4]] by simp [Act.eval, h75]]
       refine (zaN.calls a4_0 a4_1 a4_2 a4_3 A4_4 c4_4 l4_4 t55 t56 t57 t58 t59 _ (Kd.zat (Kd.zbu HC4_4.out) hr) hc4_4 F60.out).mono ?_
       rintro e w3 ⟨v, rfl, hR, hb⟩
       exact ⟨_, rfl, hb, OneR.of hR⟩
      refine zbW (OneR k35 35 t65 (vT t61 t62 t63 t64 t66)) OneR.grows rfl rfl Try.func23 k9 rfl (fun _ _ _ _ => zae rfl) ?_ ?_
      ·
       intro a w' hr hs
       have h71 := hs.gv 5 rfl rfl
       obtain ⟨A73, c73, h73, hc73, hC73, hR73⟩ := hs.rd 3 rfl rfl
       simp only [vA] at h73
       have h74 := hs.gv 2 rfl rfl
       obtain ⟨A76, c76, h76, hc76, hC76, hR76⟩ := hs.rd 0 rfl rfl
       simp only [vA] at h76
       rw [show (#[Operand.tmp 71, Operand.tmp 73, Operand.tmp 74, Operand.tmp 76, Operand.const (.bool true)] : Array Operand).map a.eval = #[.slice A0 l0.length c0, .agg #[.int .i64 t49, .int .i64 t50, .int .u64 t51, .string t52, .slice A73 t53.length c73], .string a2, .agg #[.int .i64 t55, .int .i64 t56, .int .u64 t57, .string t58, .slice A76 t59.length c76], .bool true] by simp [Act.eval, h71, h73, h74, h76]]
       refine (zbk.calls k A0 c0 l0 t49 t50 t51 t52 A73 c73 t53 a2 t55 t56 t57 t58 A76 c76 t59 true t61 t62 t63 t64 t65 t66 _ (Kd.zat (Kd.zbu HC0.out) hr) hc0 hC73 hc73 hC76 hc76 F67.out).mono ?_
       rintro e w3 ⟨v, rfl, hR, hb⟩
       exact ⟨_, rfl, hb, OneR.of hR⟩
      refine zcc (OneR k35 35 t65 (vT t61 t62 t63 t64 t66)) OneR.grows Grows.refl rfl (fun _ _ _ _ => zae rfl) ?_ ?_
      ·
       intro a w' hr hs
       obtain ⟨A77, c77, h77, hc77, hC77, hR77⟩ := hs.rd 0 rfl rfl
       simp only [vT] at h77
       exact ⟨.tuple #[.agg #[.int .i64 t61, .int .i64 t62, .int .u64 t63, .string t64, .slice A77 t65.length c77], .int .i64 t66], by go_simp, _, rfl, hR77⟩
      refine zcc (OneR k35 35 t65 (vA t61 t62 t63 t64)) OneR.grows Grows.refl rfl (fun _ _ _ _ => zae rfl) ?_ ?_
      ·
       intro a w' hr hs
       obtain ⟨A70, c70, h70, hc70, hC70, hR70⟩ := hs.rd 0 rfl rfl
       simp only [vT] at h70
       exact ⟨.agg #[.int .i64 t61, .int .i64 t62, .int .u64 t63, .string t64, .slice A70 t65.length c70], by go_simp, _, rfl, hR70⟩
      refine zdl (.int .i64 t66) Grows.refl rfl (fun _ _ _ _ => zae rfl) ?_ ?_
      ·
       intro a w' hr hs w3
       obtain ⟨A70, c70, h70, hc70, hC70, hR70⟩ := hs.rd 1 rfl rfl
       simp only [vT] at h70
       go_simp
      refine zdv (Boxed #[.int .i64 0, .int .i64 0, .int .u64 0, .string (⟨#[]⟩ : ByteArray), .slice none 0 0] 27 w94_as.heap.size) Boxed.grows rfl (fun _ _ _ _ => zae rfl) ?_ ?_
      ·
       intro a w' hr hs
       exact ⟨_, _, by go_simp, Grows.alloc _ _, Boxed.new hr.size⟩
      intro vs w96_ hr hE
      have g_ : OneR k35 35 t65 (vA t61 t62 t63 t64) (vs 8) w96_ := hE _ (zbs 2 rfl)
      obtain ⟨Au97, cu97, e8, hcu97, hCu97, hRu97⟩ := g_.reads
      clear g_
      replace e8 : vs 8 = .agg #[.int .i64 t61, .int .i64 t62, .int .u64 t63, .string t64, .slice Au97 t65.length cu97] := e8
      have HCu97 := zaa.mk hCu97
      clear hCu97
      have HRu97 := zaa.mk hRu97
      clear hRu97
      have e9 : vs 9 = .int .i64 t66 := hE _ (zbs 1 rfl)
      obtain ⟨b68_, e10, HXb68, hlb68⟩ := hE _ (zbs 0 rfl)
      replace HXb68 := zaa.mk HXb68
      have hwb68 : w.heap.size ≤ b68_ := Nat.le_trans HB.out.size hlb68
      have hneb1b68 : b1_ ≠ b68_ := by have := zai HXb1.out; omega
      have hneb2b68 : b2_ ≠ b68_ := by have := zai HXb2.out; omega
      have hneb20b68 : b20_ ≠ b68_ := by have := zai HXb20.out; omega
      have hneb40b68 : b40_ ≠ b68_ := by have := zai HXb40.out; omega
      have hneb48b68 : b48_ ≠ b68_ := by have := zai HXb48.out; omega
      have hg : Grows w94_as w96_ := Below.trans (Below.refl w94_as.heap.size w94_as).drew hr
      clear hE hr
      rw [show List.range 11 = [0, 1, 2, 3, 4, 5, 6, 7, 8, 9, 10] from rfl]
      simp only [ps, ga, pa, e8, e9, e10]
      clear e8 e9 e10
      have z0 := zad HXb68.out 0
      have f0 := free_at HXb68.out 0
      have z1 := zad HXb68.out 1
      have f1 := free_at HXb68.out 1
      have z2 := zad HXb68.out 2
      have f2 := free_at HXb68.out 2
      have z3 := zad HXb68.out 3
      have f3 := free_at HXb68.out 3
      have z4 := zad HXb68.out 4
      have f4 := free_at HXb68.out 4
      simp only [ga] at z0 z1 z2 z3 z4
      obtain ⟨w96_s, hw96_s⟩ : ∃ W, W = (((((w96_.setCell ⟨b68_, 0, none⟩ (.int .i64 t61)).setCell ⟨b68_, 1, none⟩ (.int .i64 t62)).setCell ⟨b68_, 2, none⟩ (.int .u64 t63)).setCell ⟨b68_, 3, none⟩ (.string t64)).setCell ⟨b68_, 4, none⟩ (.slice Au97 t65.length cu97)) := ⟨_, rfl⟩
      refine ⟨_, w96_s, rfl, by rw [hw96_s]; go_simp, ?_⟩
      clear z0 z1 z2 z3 z4 f0 f1 f2 f3 f4
      have hR_ := (Kd.R_set (Kd.R_set (Kd.R_set (Kd.R_set (Kd.R_set HRu97.out HXb68.out d9 0 (.int .i64 t61)) (zaf HXb68.out 0 (.int .i64 t61) rfl) d9 1 (.int .i64 t62)) (zaf (zaf HXb68.out 0 (.int .i64 t61) rfl) 1 (.int .i64 t62) rfl) d9 2 (.int .u64 t63)) (zaf (zaf (zaf HXb68.out 0 (.int .i64 t61) rfl) 1 (.int .i64 t62) rfl) 2 (.int .u64 t63) rfl) d9 3 (.string t64)) (zaf (zaf (zaf (zaf HXb68.out 0 (.int .i64 t61) rfl) 1 (.int .i64 t62) rfl) 2 (.int .u64 t63) rfl) 3 (.string t64) rfl) d9 4 (.slice Au97 t65.length cu97))
      rw [← hw96_s] at hR_
      have HCu97 := zaa.mk (Kd.zbn hR_).2.2
      replace HRu97 := zaa.mk hR_
      clear hR_
      have hX_ : w96_s.heap[b68_]? = some (.cells #[.int .i64 t61, .int .i64 t62, .int .u64 t63, .string t64, .slice Au97 t65.length cu97] 27 (0, 0)) := by rw [hw96_s]; exact (zaf (zaf (zaf (zaf (zaf HXb68.out 0 (.int .i64 t61) rfl) 1 (.int .i64 t62) rfl) 2 (.int .u64 t63) rfl) 3 (.string t64) rfl) 4 (.slice Au97 t65.length cu97) rfl)
      replace HXb68 := zaa.mk hX_
      clear hX_
      replace hg : Grows w94_as w96_s := by rw [hw96_s]; exact (setB (setB (setB (setB (setB hg hlb68 (.int .i64 t61)) hlb68 (.int .i64 t62)) hlb68 (.int .u64 t63)) hlb68 (.string t64)) hlb68 (.slice Au97 t65.length cu97))
      clear hw96_s
      refine zbv (i := 12) (r := []) (w' := w96_s) 19 (.int .i64 t66) rfl rfl (zae rfl) q9 ?_
      simp only [pa]
      refine zaX ?_
      simp only [Exit.then]
      replace HCu91 := cb HCu91 hg
      replace HRu91 := rb HRu91 hg
      replace HCu93 := cb HCu93 hg
      replace HRu93 := rb HRu93 hg
      replace HCu95 := cb HCu95 hg
      replace HRu95 := rb HRu95 hg
      replace HXb1 := ab HXb1 hg
      replace HXb2 := ab HXb2 hg
      replace HXb20 := ab HXb20 hg
      replace HXb40 := ab HXb40 hg
      replace HXb48 := ab HXb48 hg
      replace HB := hbm HB hg
      clear hg
      replace HC0 := cb PHC0 HB.out
      replace HC1_4 := cb PHC1_4 HB.out
      replace HC4_4 := cb PHC4_4 HB.out
      refine wp_seq ?_
      by_cases q98 : t3 = true
      ·
       rw [if_pos q98] at h
       obtain rfl : t3 = true := by simpa using q98
       replace h := Option.bind_eq_some_iff.1 h
       obtain ⟨t69, F70, h⟩ := h
       try dsimp only at h
       replace F70 := zaa.mk F70
       by_cases q99 : t69 = true
       ·
        rw [if_pos q99] at h
        obtain rfl : t69 = true := by simpa using q99
        replace h := Option.bind_eq_some_iff.1 h
        obtain ⟨t71, F72, h⟩ := h
        try dsimp only at h
        replace F72 := zaa.mk F72
        refine rgt (N := 95) 16 ?_
        rw [show List.range 16 = [0, 1, 2, 3, 4, 5, 6, 7, 8, 9, 10, 11, 12, 13, 14, 15] from rfl]
        refine rgv (.bool true) ?_ ?_
        ·
         intro a w' hr hs
         have h11 := hs.ov 11 (.bool true)
         go_simp
        refine rgv (.bool true) ?_ ?_
        ·
         intro a w' hr hs
         have h80 := hs.gv 0 rfl rfl
         go_simp
        refine zaF (.agg #[.int .i64 t13, .int .i64 t14, .int .u64 t15, .string t16, .slice Au91 t17.length cu91]) Grows.refl rfl (fun a w hr hs => zax (g := 1) (t := 81) rfl rfl (hs.g 0)) ?_ ?_
        ·
         intro a w' hr hs
         have h12 := hs.ov 12 (.pointer (some ⟨b20_, 0, none⟩))
         have x := hr.at HXb20.out
         have x0 := zad x 0
         have x1 := zad x 1
         have x2 := zad x 2
         have x3 := zad x 3
         have x4 := zad x 4
         simp only [ga] at x0 x1 x2 x3 x4
         go_simp
        refine zaF (.int .i64 t18) Grows.refl rfl (fun a w hr hs => zax (g := 1) (t := 81) rfl rfl (hs.g 1)) ?_ ?_
        ·
         intro a w' hr hs
         have h13 := hs.ov 13 (.int .i64 t18)
         go_simp
        refine zaF (.agg #[.int .i64 t33, .int .i64 t34, .int .u64 t35, .string t36, .slice Au93 t37.length cu93]) Grows.refl rfl (fun a w hr hs => zax (g := 1) (t := 81) rfl rfl (hs.g 2)) ?_ ?_
        ·
         intro a w' hr hs
         have h14 := hs.ov 14 (.pointer (some ⟨b40_, 0, none⟩))
         have x := hr.at HXb40.out
         have x0 := zad x 0
         have x1 := zad x 1
         have x2 := zad x 2
         have x3 := zad x 3
         have x4 := zad x 4
         simp only [ga] at x0 x1 x2 x3 x4
         go_simp
        refine zaF (.int .i64 t38) Grows.refl rfl (fun a w hr hs => zax (g := 1) (t := 81) rfl rfl (hs.g 3)) ?_ ?_
        ·
         intro a w' hr hs
         have h15 := hs.ov 15 (.int .i64 t38)
         go_simp
        refine zbc (fun v _ => v = .bool true) (fun _ _ _ _ h => h) rfl rfl Try.func24 k9 rfl (fun a w hr hs => zax (g := 1) (t := 81) rfl rfl (hs.g 4)) ?_ ?_
        ·
         intro a w' hr hs
         have h82 := hs.gv 3 rfl rfl
         have h83 := hs.gv 2 rfl rfl
         have h84 := hs.gv 1 rfl rfl
         have h85 := hs.gv 0 rfl rfl
         rw [show (#[Operand.tmp 82, Operand.tmp 83, Operand.tmp 84, Operand.tmp 85] : Array Operand).map a.eval = #[.agg #[.int .i64 t13, .int .i64 t14, .int .u64 t15, .string t16, .slice Au91 t17.length cu91], .int .i64 t18, .agg #[.int .i64 t33, .int .i64 t34, .int .u64 t35, .string t36, .slice Au93 t37.length cu93], .int .i64 t38] by simp [Act.eval, h82, h83, h84, h85]]
         refine (zaC.calls k t13 t14 t15 t16 Au91 cu91 t17 t18 t33 t34 t35 t36 Au93 cu93 t37 t38 true _ (Kd.zat HCu91.out hr) hcu91 (Kd.zat HCu93.out hr) hcu93 F70.out).mono ?_
         rintro e w3 ⟨rfl, hb⟩
         exact ⟨_, rfl, hb, rfl⟩
        refine rgv (.bool true) ?_ ?_
        ·
         intro a w' hr hs
         have h81 := hs.gv 5 rfl rfl
         have h86 := hs.gv 0 rfl rfl
         go_simp
        refine rgv (.bool true) ?_ ?_
        ·
         intro a w' hr hs
         have h87 := hs.gv 0 rfl rfl
         go_simp
        refine zaF (.agg #[.int .i64 t41, .int .i64 t42, .int .u64 t43, .string t44, .slice Au95 t45.length cu95]) Grows.refl rfl (fun a w hr hs => zax (g := 8) (t := 88) rfl rfl (hs.g 0)) ?_ ?_
        ·
         intro a w' hr hs
         have h16 := hs.ov 16 (.pointer (some ⟨b48_, 0, none⟩))
         have x := hr.at HXb48.out
         have x0 := zad x 0
         have x1 := zad x 1
         have x2 := zad x 2
         have x3 := zad x 3
         have x4 := zad x 4
         simp only [ga] at x0 x1 x2 x3 x4
         go_simp
        refine zaF (.int .i64 t46) Grows.refl rfl (fun a w hr hs => zax (g := 8) (t := 88) rfl rfl (hs.g 1)) ?_ ?_
        ·
         intro a w' hr hs
         have h17 := hs.ov 17 (.int .i64 t46)
         go_simp
        refine zaF (.agg #[.int .i64 t61, .int .i64 t62, .int .u64 t63, .string t64, .slice Au97 t65.length cu97]) Grows.refl rfl (fun a w hr hs => zax (g := 8) (t := 88) rfl rfl (hs.g 2)) ?_ ?_
        ·
         intro a w' hr hs
         have h18 := hs.ov 18 (.pointer (some ⟨b68_, 0, none⟩))
         have x := hr.at HXb68.out
         have x0 := zad x 0
         have x1 := zad x 1
         have x2 := zad x 2
         have x3 := zad x 3
         have x4 := zad x 4
         simp only [ga] at x0 x1 x2 x3 x4
         go_simp
        refine zaF (.int .i64 t66) Grows.refl rfl (fun a w hr hs => zax (g := 8) (t := 88) rfl rfl (hs.g 3)) ?_ ?_
        ·
         intro a w' hr hs
         have h19 := hs.ov 19 (.int .i64 t66)
         go_simp
        refine zbc (fun v _ => v = .bool t71) (fun _ _ _ _ h => h) rfl rfl Try.func24 k9 rfl (fun a w hr hs => zax (g := 8) (t := 88) rfl rfl (hs.g 4)) ?_ ?_
        ·
         intro a w' hr hs
         have h89 := hs.gv 3 rfl rfl
         have h90 := hs.gv 2 rfl rfl
         have h91 := hs.gv 1 rfl rfl
         have h92 := hs.gv 0 rfl rfl
         rw [show (#[Operand.tmp 89, Operand.tmp 90, Operand.tmp 91, Operand.tmp 92] : Array Operand).map a.eval = #[.agg #[.int .i64 t41, .int .i64 t42, .int .u64 t43, .string t44, .slice Au95 t45.length cu95], .int .i64 t46, .agg #[.int .i64 t61, .int .i64 t62, .int .u64 t63, .string t64, .slice Au97 t65.length cu97], .int .i64 t66] by simp [Act.eval, h89, h90, h91, h92]]
         refine (zaC.calls k t41 t42 t43 t44 Au95 cu95 t45 t46 t61 t62 t63 t64 Au97 cu97 t65 t66 t71 _ (Kd.zat HCu95.out hr) hcu95 (Kd.zat HCu97.out hr) hcu97 F72.out).mono ?_
         rintro e w3 ⟨rfl, hb⟩
         exact ⟨_, rfl, hb, rfl⟩
        refine rgv (.bool t71) ?_ ?_
        ·
         intro a w' hr hs
         have h88 := hs.gv 5 rfl rfl
         have h93 := hs.gv 0 rfl rfl
         go_simp
        refine rgv (.bool t71) ?_ ?_
        ·
         intro a w' hr hs
         have h94 := hs.gv 0 rfl rfl
         go_simp
        intro vs w100_ hr hE
        have e15 : vs 15 = .bool t71 := hE _ (zbs 0 rfl)
        have hg : Grows w96_s w100_ := hr
        clear hE hr
        rw [show List.range 16 = [0, 1, 2, 3, 4, 5, 6, 7, 8, 9, 10, 11, 12, 13, 14, 15] from rfl]
        simp only [ps, ga, pa, e15]
        clear e15
        have hT : Grows w100_ w100_ := Grows.refl _
        replace hg : Grows w96_s w100_ := hg.trans hT
        clear hT
        refine zaX ?_
        simp only [Exit.then]
        replace HCu91 := cb HCu91 hg
        replace HRu91 := rb HRu91 hg
        replace HCu93 := cb HCu93 hg
        replace HRu93 := rb HRu93 hg
        replace HCu95 := cb HCu95 hg
        replace HRu95 := rb HRu95 hg
        replace HCu97 := cb HCu97 hg
        replace HRu97 := rb HRu97 hg
        replace HXb1 := ab HXb1 hg
        replace HXb2 := ab HXb2 hg
        replace HXb20 := ab HXb20 hg
        replace HXb40 := ab HXb40 hg
        replace HXb48 := ab HXb48 hg
        replace HXb68 := ab HXb68 hg
        replace HB := hbm HB hg
        clear hg
        replace HC0 := cb PHC0 HB.out
        replace HC1_4 := cb PHC1_4 HB.out
        replace HC4_4 := cb PHC4_4 HB.out
        obtain rfl := Option.some.inj h
        go_wp2_with fail
        go_ret
        exact ⟨rfl, HB.out⟩
       ·
        rw [if_neg q99] at h
        cases h
      ·
       rw [if_neg q98] at h
       cases h
end Go.Proofs.Ytinkbljjpafadaa.PAll
end

section
namespace Go.Proofs.Ytinkbljjpafadaa.PAll
open Go.RowKit Go.Proofs.YtinkbljjpafadaaW.PrintWords Go.Proofs.YtinkbljjpafadaaW.PrintLast Go.Proofs.YtinkbljjpafadaaOpen
def chaperonlaw16_CoerceShort.Pure : Prop := ∀ (l0 : List (S64)) (x1 : S27) (a2 : ByteArray) (a3 : Int) (x4 : S27), l0.length ≤ maxLen → (∀ x ∈ l0, wf64 x) → wf27 x1 → a2.size ≤ maxLen → (Lit.int .i64 a3).wf = true → wf27 x4 → ∃ k, chaperonlaw16_CoerceShort.f k l0 x1.f0 x1.f1 x1.f2 x1.f3 x1.f4 a2 a3 x4.f0 x4.f1 x4.f2 x4.f3 x4.f4 = some true
end Go.Proofs.Ytinkbljjpafadaa.PAll
end

section
namespace Go.Proofs.YtinkbljjpafadaaHChain
open Go.Proofs.YtinkbljjpafadaaRF Go.Proofs.YtinkbljjpafadaaMp
section
variable {A : Type}
def KeptF (x : Nat → A) (S : Nat → Prop) (i : Nat) : Prop := ∃ j, j ≤ i ∧ S j ∧ (∀ k, S k → k < j → x k ≠ x j) ∧ ∀ k, S k → j ≤ k → k < i → x k ≠ x i
def KeptB (x : Nat → A) (S : Nat → Prop) (i : Nat) : Prop := ∃ j, i ≤ j ∧ S j ∧ (∀ k, S k → j < k → x k ≠ x j) ∧ ∀ k, S k → i < k → k ≤ j → x k ≠ x i
def Kept (x : Nat → A) (S : Nat → Prop) (i : Nat) : Prop := S i ∧ (KeptF x S i ∨ KeptB x S i)
theorem least {p : Nat → Prop} {n : Nat} (h : p n) : ∃ m, m ≤ n ∧ p m ∧ ∀ k, k < m → ¬ p k := by
 induction n using Nat.strongRecOn with
 | _ n ih =>
  by_cases hx : ∃ k, k < n ∧ p k
  ·
   obtain ⟨k, hk, hp⟩ := hx
   obtain ⟨m, h1, h2, h3⟩ := ih k hk hp
   exact ⟨m, by omega, h2, h3⟩
  ·
   exact ⟨n, Nat.le_refl _, h, fun k hk hp => hx ⟨k, hk, hp⟩⟩
theorem greatest {p : Nat → Prop} {N : Nat} : ∀ {n : Nat}, p n → (∀ k, p k → k < N) → ∃ m, n ≤ m ∧ p m ∧ ∀ k, m < k → ¬ p k := by
 intro n h hb
 obtain ⟨d, hd⟩ : ∃ d, d = N - n := ⟨_, rfl⟩
 induction d using Nat.strongRecOn generalizing n with
 | _ d ih =>
  by_cases hx : ∃ k, n < k ∧ p k
  ·
   obtain ⟨k, hk, hp⟩ := hx
   obtain ⟨m, h1, h2, h3⟩ := ih (N - k) (by have := hb k hp; omega) hp rfl
   exact ⟨m, by omega, h2, h3⟩
  ·
   exact ⟨n, Nat.le_refl _, h, fun k hk hp => hx ⟨k, hk, hp⟩⟩
theorem zdj {x : Nat → A} {S : Nat → Prop} {j : Nat} (hj : S j) (h : ∀ k, S k → k < j → x k ≠ x j) : Kept x S j :=
 ⟨hj, .inl ⟨j, Nat.le_refl _, hj, h, fun k _ h1 h2 => absurd h1 o9⟩⟩
theorem zgj {x : Nat → A} {S : Nat → Prop} {j : Nat} (hj : S j) (h : ∀ k, S k → j < k → x k ≠ x j) : Kept x S j :=
 ⟨hj, .inr ⟨j, Nat.le_refl _, hj, h, fun k _ h1 h2 => absurd h1 o9⟩⟩
theorem zgd {x : Nat → A} {S T : Nat → Prop} {N : Nat} (hN : ∀ k, S k → k < N) (hTS : ∀ k, T k → S k) (hK : ∀ k, Kept x S k → T k) (i : Nat) : Kept x T i ↔ Kept x S i := by
 constructor
 ·
  rintro ⟨hi, ⟨j, hji, hj, h1, h2⟩ | ⟨j, hji, hj, h1, h2⟩⟩
  ·
   have h3 : ∀ k, S k → k < j → x k ≠ x j := by
    intro k hk hkj he
    obtain ⟨m, hm1, ⟨hm2, hm3⟩, hm4⟩ := least (p := fun k => S k ∧ x k = x j) ⟨hk, he⟩
    exact h1 m (hK m (zdj hm2 fun q hq hqm e => hm4 q hqm ⟨hq, e.trans hm3⟩)) o9 hm3
   refine ⟨hTS i hi, .inl ⟨j, hji, hTS j hj, h3, ?_⟩⟩
   intro k hk hjk hki he
   obtain ⟨m, hm1, ⟨hm2, hm3, hm5⟩, hm4⟩ := least (p := fun k => S k ∧ j ≤ k ∧ x k = x i) ⟨hk, hjk, he⟩
   exact h2 m (hK m ⟨hm2, .inl ⟨j, hm3, hTS j hj, h3, fun q hq hjq hqm e => hm4 q hqm ⟨hq, hjq, e.trans hm5⟩⟩⟩) hm3 o9 hm5
  ·
   have h3 : ∀ k, S k → j < k → x k ≠ x j := by
    intro k hk hkj he
    obtain ⟨m, hm1, ⟨hm2, hm3⟩, hm4⟩ := greatest (p := fun k => S k ∧ x k = x j) (N := N) ⟨hk, he⟩ fun q hq => hN q hq.1
    exact h1 m (hK m (zgj hm2 fun q hq hqm e => hm4 q hqm ⟨hq, e.trans hm3⟩)) o9 hm3
   refine ⟨hTS i hi, .inr ⟨j, hji, hTS j hj, h3, ?_⟩⟩
   intro k hk hjk hki he
   obtain ⟨m, hm1, ⟨hm2, hm3, hm5⟩, hm4⟩ := greatest (p := fun k => S k ∧ k ≤ j ∧ x k = x i) (N := N) ⟨hk, hki, he⟩ fun q hq => hN q hq.1
   exact h2 m (hK m ⟨hm2, .inr ⟨j, hm3, hTS j hj, h3, fun q hq hqm hjq e => hm4 q hqm ⟨hq, hjq, e.trans hm5⟩⟩⟩) o9 hm3 hm5
 ·
  rintro ⟨hi, ⟨j, hji, hj, h1, h2⟩ | ⟨j, hji, hj, h1, h2⟩⟩
  ·
   refine ⟨hK i ⟨hi, .inl ⟨j, hji, hj, h1, h2⟩⟩, .inl ⟨j, hji, hK j (zdj hj h1), fun k hk => h1 k (hTS k hk), fun k hk => h2 k (hTS k hk)⟩⟩
  ·
   refine ⟨hK i ⟨hi, .inr ⟨j, hji, hj, h1, h2⟩⟩, .inr ⟨j, hji, hK j (zgj hj h1), fun k hk => h1 k (hTS k hk), fun k hk => h2 k (hTS k hk)⟩⟩
end
section
variable {A B : Type}
open Classical in
noncomputable def norm (f : B → A) (l : List B) : List B := ((List.range l.length).filter fun i => decide (Kept (fun k => (l[k]?).map f) (· < l.length) i)).filterMap (l[·]?)
structure Lists (P : List Nat) (T : Nat → Prop) : Prop where
 sorted : P.Pairwise (· < ·)
 mem : ∀ i, i ∈ P ↔ T i
theorem Lists.filter {P : List Nat} {T : Nat → Prop} (h : Lists P T) (q : Nat → Bool) : Lists (P.filter q) fun i => T i ∧ q i = true :=
 ⟨h.sorted.filter q, fun i => by rw [List.mem_filter, h.mem]⟩
theorem Lists.range (n : Nat) : Lists (List.range n) (· < n) := ⟨List.pairwise_lt_range, fun i => List.mem_range⟩
theorem Lists.at_lt {P : List Nat} {T : Nat → Prop} (h : Lists P T) {i j : Nat} (hi : i < P.length) (hj : j < P.length) : P[i] < P[j] ↔ i < j := by
 constructor
 ·
  intro hlt
  rcases Nat.lt_or_ge i j with h1 | h1
  ·
   exact h1
  ·
   rcases Nat.lt_or_eq_of_le h1 with h2 | h2
   ·
    have := List.pairwise_iff_getElem.1 h.sorted j i hj hi h2; omega
   ·
    subst h2; omega
 ·
  exact fun h1 => List.pairwise_iff_getElem.1 h.sorted i j hi hj h1
theorem Lists.at_le {P : List Nat} {T : Nat → Prop} (h : Lists P T) {i j : Nat} (hi : i < P.length) (hj : j < P.length) : P[i] ≤ P[j] ↔ i ≤ j := by
 have := h.at_lt hj hi; omega
theorem Lists.all {P : List Nat} {T : Nat → Prop} (h : Lists P T) {q : Nat → Prop} : (∀ j, T j → q j) ↔ ∀ j, ∀ hj : j < P.length, q P[j] := by
 constructor
 ·
  exact fun h1 j hj => h1 _ ((h.mem _).1 (List.getElem_mem hj))
 ·
  intro h1 j hj
  obtain ⟨n, hn, rfl⟩ := List.getElem_of_mem ((h.mem j).2 hj)
  exact h1 n hn
theorem zjM {x : Nat → A} {P : List Nat} {T : Nat → Prop} (h : Lists P T) {y : Nat → A} (hy : ∀ i, (hi : i < P.length) → y i = x P[i]) {i : Nat} (hi : i < P.length) : Kept y (· < P.length) i ↔ Kept x T P[i] := by
 unfold Kept
 have h0 : i < P.length ↔ T P[i] := iff_of_true hi ((h.mem _).1 (List.getElem_mem hi))
 have hF : KeptF y (· < P.length) i ↔ KeptF x T P[i] := by
  unfold KeptF
  constructor
  ·
   rintro ⟨j, h1, h2, h3, h4⟩
   refine ⟨P[j], (h.at_le h2 hi).2 h1, (h.mem _).1 (List.getElem_mem h2), h.all.2 fun k hk hlt => ?_, h.all.2 fun k hk h5 h6 => ?_⟩
   ·
    rw [← hy k hk, ← hy j h2]; exact h3 k hk ((h.at_lt hk h2).1 hlt)
   ·
    rw [← hy k hk, ← hy i hi]; exact h4 k hk ((h.at_le h2 hk).1 h5) ((h.at_lt hk hi).1 h6)
  ·
   rintro ⟨j, h1, h2, h3, h4⟩
   obtain ⟨j, hj, rfl⟩ := List.getElem_of_mem ((h.mem j).2 h2)
   refine ⟨j, (h.at_le hj hi).1 h1, hj, fun k hk hlt => ?_, fun k hk h5 h6 => ?_⟩
   ·
    rw [hy k hk, hy j hj]; exact h3 _ ((h.mem _).1 (List.getElem_mem hk)) ((h.at_lt hk hj).2 hlt)
   ·
    rw [hy k hk, hy i hi]; exact h4 _ ((h.mem _).1 (List.getElem_mem hk)) ((h.at_le hj hk).2 h5) ((h.at_lt hk hi).2 h6)
 have hB : KeptB y (· < P.length) i ↔ KeptB x T P[i] := by
  unfold KeptB
  constructor
  ·
   rintro ⟨j, h1, h2, h3, h4⟩
   refine ⟨P[j], (h.at_le hi h2).2 h1, (h.mem _).1 (List.getElem_mem h2), h.all.2 fun k hk hlt => ?_, h.all.2 fun k hk h5 h6 => ?_⟩
   ·
    rw [← hy k hk, ← hy j h2]; exact h3 k hk ((h.at_lt h2 hk).1 hlt)
   ·
    rw [← hy k hk, ← hy i hi]; exact h4 k hk ((h.at_lt hi hk).1 h5) ((h.at_le hk h2).1 h6)
  ·
   rintro ⟨j, h1, h2, h3, h4⟩
   obtain ⟨j, hj, rfl⟩ := List.getElem_of_mem ((h.mem j).2 h2)
   refine ⟨j, (h.at_le hi hj).1 h1, hj, fun k hk hlt => ?_, fun k hk h5 h6 => ?_⟩
   ·
    rw [hy k hk, hy j hj]; exact h3 _ ((h.mem _).1 (List.getElem_mem hk)) ((h.at_lt hj hk).2 hlt)
   ·
    rw [hy k hk, hy i hi]; exact h4 _ ((h.mem _).1 (List.getElem_mem hk)) ((h.at_lt hi hk).2 h5) ((h.at_le hk hj).2 h6)
 rw [hF, hB]
 exact and_congr_left' h0
def pick (l : List B) (P : List Nat) : List B := P.filterMap (l[·]?)
theorem zcx {l : List B} : ∀ {P : List Nat}, (∀ i ∈ P, i < l.length) → (pick l P).length = P.length
 | [], _ => rfl
 | i :: r, h => by
  have hi := h i List.mem_cons_self
  have ih := zcx (l := l) (P := r) fun j hj => h j (List.mem_cons_of_mem _ hj)
  unfold pick at ih ⊢
  rw [List.filterMap_cons_some (List.getElem?_eq_getElem hi)]
  simp [ih]
theorem zcV {l : List B} : ∀ {P : List Nat}, (∀ i ∈ P, i < l.length) → ∀ (n : Nat) (hn : n < P.length), (pick l P)[n]? = l[P[n]]?
 | [], _, n, hn => absurd hn s9
 | i :: r, h, n, hn => by
  have hi := h i List.mem_cons_self
  have ih := zcV (l := l) (P := r) fun j hj => h j (List.mem_cons_of_mem _ hj)
  unfold pick at ih ⊢
  rw [List.filterMap_cons_some (List.getElem?_eq_getElem hi)]
  cases n with
  | zero => simp [List.getElem?_eq_getElem hi]
  | succ n => simpa using ih n (by simpa using hn)
theorem zdX (l : List B) : pick l (List.range l.length) = l := by
 refine List.ext_getElem? fun n => ?_
 by_cases hn : n < l.length
 ·
  rw [zcV s9 n (by simpa using hn)]; simp
 ·
  rw [List.getElem?_eq_none (by rw [zcx s9]; simpa using hn), List.getElem?_eq_none (by simpa using hn)]
theorem zjN {l : List B} {P : List Nat} (hP : ∀ i ∈ P, i < l.length) (Q : List Nat) (hQ : ∀ i ∈ Q, i < P.length) : pick (pick l P) Q = pick l (pick P Q) := by
 refine List.ext_getElem? fun n => ?_
 have h1 : ∀ i ∈ Q, i < (pick l P).length := fun i hi => by rw [zcx hP]; exact hQ i hi
 by_cases hn : n < Q.length
 ·
  have h2 : ∀ i ∈ pick P Q, i < l.length := fun i hi => by
   obtain ⟨q, _, hq⟩ := List.mem_filterMap.1 hi
   exact hP i (List.mem_of_getElem? hq)
  have h3 : n < (pick P Q).length := by rw [zcx hQ]; exact hn
  have h4 := zcV hQ n hn
  rw [List.getElem?_eq_getElem h3, List.getElem?_eq_getElem (hQ _ (List.getElem_mem hn))] at h4
  rw [zcV h1 n hn, zcV h2 n h3, zcV hP _ (hQ _ (List.getElem_mem hn)), Option.some.inj h4]
 ·
  rw [List.getElem?_eq_none (by rw [zcx h1]; omega), List.getElem?_eq_none]
  rw [zcx, zcx hQ]; omega
  intro i hi
  obtain ⟨q, _, hq⟩ := List.mem_filterMap.1 hi
  exact hP i (List.mem_of_getElem? hq)
open Classical in
theorem zeu (f : B → A) (l : List B) {P : List Nat} {T : Nat → Prop} (h : Lists P T) (hP : ∀ i ∈ P, i < l.length) :
  norm f (pick l P) = pick l (P.filter fun i => decide (Kept (fun k => (l[k]?).map f) T i)) := by
 unfold norm
 have hlen := zcx hP
 rw [hlen]
 have e1 : (List.range P.length).filter (fun i => decide (Kept (fun k => ((pick l P)[k]?).map f) (· < P.length) i)) = (List.range P.length).filter fun i => decide (Kept (fun k => (l[k]?).map f) T (P.getD i 0)) := by
  refine List.filter_congr fun i hi => ?_
  have hi' := List.mem_range.1 hi
  have := zjM (x := fun k => (l[k]?).map f) h (y := fun k => ((pick l P)[k]?).map f) (fun i hi => by simp only [zcV hP i hi]) hi'
  rw [List.getD_eq_getElem?_getD, List.getElem?_eq_getElem hi', Option.getD_some]
  exact decide_eq_decide.2 this
 rw [e1]
 show pick (pick l P) _ = _
 rw [zjN hP _ fun i hi => List.mem_range.1 (List.mem_filter.1 hi).1]
 congr 1
 have : ∀ (q : Nat → Bool) (P : List Nat), pick P ((List.range P.length).filter fun i => q (P.getD i 0)) = P.filter q := by
  intro q P
  induction P with
  | nil => rfl
  | cons a r ih =>
   rw [List.length_cons, List.range_succ_eq_map, List.filter_cons]
   have hm : ((List.map Nat.succ (List.range r.length)).filter fun i => q ((a :: r).getD i 0)) = ((List.range r.length).filter fun i => q (r.getD i 0)).map Nat.succ := by
    rw [List.filter_map]; rfl
   rw [hm]
   have hp : ∀ Q : List Nat, pick (a :: r) (Q.map Nat.succ) = pick r Q := by
    intro Q
    unfold pick
    rw [List.filterMap_map]
    rfl
   by_cases hq : q a = true
   ·
    rw [List.filter_cons_of_pos hq]
    simp only [List.getD_cons_zero, hq, if_true]
    show pick (a :: r) (0 :: _) = _
    unfold pick at ih hp ⊢
    rw [List.filterMap_cons_some (b := a) s9, hp, ih]
   ·
    rw [List.filter_cons_of_neg hq]
    simp only [List.getD_cons_zero, hq, if_false]
    rw [← ih]; exact hp _
 exact this (fun i => decide (Kept (fun k => (l[k]?).map f) T i)) P
open Classical in
theorem zc8 (f : B → A) (l : List B) : norm f l = pick l ((List.range l.length).filter fun i => decide (Kept (fun k => (l[k]?).map f) (· < l.length) i)) := rfl
open Classical in
theorem zjd (f : B → A) (l : List B) {P : List Nat} {T : Nat → Prop} (h : Lists P T) (hP : ∀ i ∈ P, i < l.length) (hK : ∀ i, Kept (fun k => (l[k]?).map f) (· < l.length) i → T i) : norm f (pick l P) = norm f l := by
 rw [zeu f l h hP, zc8]
 congr 1
 have hTl : ∀ k, T k → k < l.length := fun k hk => hP k ((h.mem k).2 hk)
 have hkp := fun i => zgd (x := fun k => (l[k]?).map f) (N := l.length) (S := (· < l.length)) (T := T) (fun k hk => hk) hTl hK i
 have hA : Lists (P.filter fun i => decide (Kept (fun k => (l[k]?).map f) T i)) fun i => Kept (fun k => (l[k]?).map f) (· < l.length) i := by
  have := h.filter fun i => decide (Kept (fun k => (l[k]?).map f) T i)
  exact ⟨this.sorted, fun i => by rw [this.mem, decide_eq_true_iff, hkp i]; exact ⟨fun h => h.2, fun h => ⟨hK i h, h⟩⟩⟩
 have hB : Lists ((List.range l.length).filter fun i => decide (Kept (fun k => (l[k]?).map f) (· < l.length) i)) fun i => Kept (fun k => (l[k]?).map f) (· < l.length) i := by
  have := (Lists.range l.length).filter fun i => decide (Kept (fun k => (l[k]?).map f) (· < l.length) i)
  exact ⟨this.sorted, fun i => by rw [this.mem, decide_eq_true_iff]; exact ⟨fun h => h.2, fun h => ⟨h.1, h⟩⟩⟩
 exact List.Perm.eq_of_pairwise (fun a b _ _ h1 h2 => by omega) hA.sorted hB.sorted ((List.perm_ext_iff_of_nodup (hA.sorted.imp fun h => Nat.ne_of_lt h) (hB.sorted.imp fun h => Nat.ne_of_lt h)).2 fun i => by rw [hA.mem, hB.mem])
end
end Go.Proofs.YtinkbljjpafadaaHChain
end

section
namespace Go.Proofs.YtinkbljjpafadaaHChain
open Go.Proofs.YtinkbljjpafadaaW.PrintWords Go.Proofs.YtinkbljjpafadaaW.PrintLast Go.Proofs.YtinkbljjpafadaaRF Go.Proofs.YtinkbljjpafadaaMp
theorem zjb {a b : Letter} : keq a b = true ↔ a = b := by
 constructor
 ·
  intro h
  obtain ⟨a1, a2⟩ := a
  obtain ⟨b1, b2⟩ := b
  simp only [keq, Bool.and_eq_true, beq_iff_eq] at h
  obtain ⟨rfl, h2⟩ := h
  obtain rfl := toList_inj h2
  rfl
 ·
  rintro rfl
  simp [keq]
theorem zdd {k : Letter} : ∀ {L : Ents} {n : Nat}, zbw keq k L n = none ↔ ∀ e ∈ L, k ≠ e.1
 | [], n => by simp [zbw]
 | e :: r, n => by
  rw [zbw]
  by_cases h : keq k e.1 = true
  ·
   rw [if_pos h]
   exact iff_of_false s9 fun hh => hh e List.mem_cons_self (zjb.1 h)
  ·
   rw [if_neg h, zdd]
   constructor
   ·
    intro hh x hx
    rcases List.mem_cons.1 hx with rfl | hx
    ·
     exact fun e => h (zjb.2 e)
    ·
     exact hh x hx
   ·
    exact fun hh x hx => hh x (List.mem_cons_of_mem _ hx)
theorem zjC (ls : Nat → Lay) (is : List Int) (x : Int) : fsts ls (is ++ [x]) = fstep ls (fsts ls is) x := by simp [fsts, List.foldl_append]
theorem zgn (ls : Nat → Lay) (is : List Int) : (∀ e ∈ fsts ls is, e.1 = lt ls e.2.1) ∧ (∀ q ∈ is, ∃ e ∈ fsts ls is, e.1 = lt ls q) ∧
  ∀ p, (∃ e ∈ fsts ls is, e.2.1 = p) ↔ ∃ t, ∃ ht : t < is.length, p = is[t] ∧ ∀ s, (hs : s < t) → lt ls is[s] ≠ lt ls is[t] := by
 obtain ⟨n, hn⟩ : ∃ n, is.length = n := ⟨_, rfl⟩
 induction n generalizing is with
 | zero =>
  obtain rfl := List.eq_nil_of_length_eq_zero hn
  exact ⟨fun e he => by simp [fsts] at he, fun q hq => by simp at hq, fun p => by simp [fsts]⟩
 | succ n ih =>
  obtain ⟨r, x, rfl⟩ : ∃ r x, is = r ++ [x] := ⟨is.dropLast, is.getLast (by intro h; simp [h] at hn), (List.dropLast_concat_getLast _).symm⟩
  have hr : r.length = n := by simpa using hn
  obtain ⟨h1, h2, h3⟩ := ih r hr
  rw [zjC]
  have hget : ∀ t (ht : t < r.length), (r ++ [x])[t]'(by simp; omega) = r[t] := fun t ht => List.getElem_append_left ht
  have hlast : (r ++ [x])[r.length]'s9 = x := by simp
  unfold fstep
  cases hf : zbw keq (lt ls x) (fsts ls r) 0 with
  | some v =>
   simp only
   have hex : ∃ e ∈ fsts ls r, e.1 = lt ls x := by
    refine Classical.byContradiction fun hno => ?_
    have : zbw keq (lt ls x) (fsts ls r) 0 = none := zdd.2 fun e he h => hno ⟨e, he, h.symm⟩
    rw [this] at hf; cases hf
   refine ⟨h1, fun q hq => ?_, fun p => ?_⟩
   ·
    rcases List.mem_append.1 hq with hq | hq
    ·
     exact h2 q hq
    ·
     rw [List.mem_singleton.1 hq]; exact hex
   ·
    rw [h3 p]
    constructor
    ·
     rintro ⟨t, ht, rfl, h4⟩
     refine ⟨t, by simp; omega, (hget t ht).symm, fun s hs => ?_⟩
     rw [hget s o9, hget t ht]; exact h4 s hs
    ·
     rintro ⟨t, ht, rfl, h4⟩
     rw [List.length_append, List.length_singleton] at ht
     rcases Nat.lt_or_ge t r.length with h5 | h5
     ·
      refine ⟨t, h5, hget t h5, fun s hs => ?_⟩
      have := h4 s hs
      rwa [hget s o9, hget t h5] at this
     ·
      obtain rfl : t = r.length := by omega
      obtain ⟨e, he, hee⟩ := hex
      obtain ⟨s, hs, h6, _⟩ := (h3 e.2.1).1 ⟨e, he, rfl⟩
      have := h4 s hs
      rw [hget s hs, hlast, ← hee, h1 e he, h6] at this
      exact absurd rfl this
  | none =>
   simp only
   have hno := zdd.1 hf
   refine ⟨fun e he => ?_, fun q hq => ?_, fun p => ?_⟩
   ·
    rcases List.mem_append.1 he with he | he
    ·
     exact h1 e he
    ·
     rw [List.mem_singleton.1 he]
   ·
    rcases List.mem_append.1 hq with hq | hq
    ·
     obtain ⟨e, he, h⟩ := h2 q hq
     exact ⟨e, List.mem_append_left _ he, h⟩
    ·
     rw [List.mem_singleton.1 hq]
     exact ⟨_, List.mem_append_right _ (List.mem_singleton.2 rfl), rfl⟩
   ·
    constructor
    ·
     rintro ⟨e, he, rfl⟩
     rcases List.mem_append.1 he with he | he
     ·
      obtain ⟨t, ht, h4, h5⟩ := (h3 e.2.1).1 ⟨e, he, rfl⟩
      refine ⟨t, by simp; omega, by rw [hget t ht]; exact h4, fun s hs => ?_⟩
      rw [hget s o9, hget t ht]; exact h5 s hs
     ·
      rw [List.mem_singleton.1 he]
      refine ⟨r.length, by simp, hlast.symm, fun s hs h => ?_⟩
      rw [hget s hs, hlast] at h
      obtain ⟨e, he, hee⟩ := h2 r[s] (List.getElem_mem hs)
      exact hno e he (by rw [hee, h])
    ·
     rintro ⟨t, ht, rfl, h4⟩
     rw [List.length_append, List.length_singleton] at ht
     rcases Nat.lt_or_ge t r.length with h5 | h5
     ·
      obtain ⟨e, he, h⟩ := (h3 r[t]).2 ⟨t, h5, rfl, fun s hs => by
       have := h4 s hs
       rwa [hget s o9, hget t h5] at this⟩
      exact ⟨e, List.mem_append_left _ he, by rw [h, hget t h5]⟩
     ·
      obtain rfl : t = r.length := by omega
      exact ⟨_, List.mem_append_right _ (List.mem_singleton.2 rfl), by rw [hlast]⟩
theorem zha (ls : Nat → Lay) (f : Int) : ∀ (pre : List Int) (L : Ents) (m : List Bool), (pre.foldl (estep ls f) (true, L, m)).2.1 = pre.foldl (fstep ls) L
 | [], _, _ => rfl
 | x :: r, L, m => by
  rw [List.foldl_cons, List.foldl_cons]
  cases hf : zbw keq (lt ls x) L 0 with
  | some v => rw [zc7 s9 hf, zha ls f r]; simp only [fstep, hf]
  | none => rw [zcU s9 hf, zha ls f r]; simp only [fstep, hf]
theorem zhB (ls : Nat → Lay) (f : Int) : ∀ (a b : List Int), f ∉ a → ((a ++ f :: b).foldl (estep ls f) (false, [], [])).2.1 = fsts ls (f :: b)
 | [], b, _ => by
  rw [List.nil_append, List.foldl_cons]
  have hf : zbw keq (lt ls f) ([] : Ents) 0 = none := rfl
  rw [zcU s9 hf, zha]
  simp only [fsts, List.foldl_cons, fstep, hf]
 | x :: a, b, h => by
  rw [List.cons_append, List.foldl_cons, zdb (by
   rw [Bool.false_or, beq_iff_eq]
   intro e; exact h (by rw [e]; exact List.mem_cons_self))]
  exact zhB ls f a b fun hh => h (List.mem_cons_of_mem _ hh)
theorem zer (N : Nat) (back : Bool) : (idxs N back).length = N := by simp [idxs]
theorem zcr (N : Nat) (back : Bool) (t : Nat) (h : t < (idxs N back).length) : (idxs N back)[t] = idx N back t := by simp [idxs]
theorem zkR {N : Nat} {back : Bool} {s t : Nat} (h : idx N back s = idx N back t) : s = t := by
 unfold idx at h; split at h <;> omega
theorem zjP (ls : Nat → Lay) (N : Nat) (back : Bool) (t : Nat) (ht : t < N) : eachL ls N back (idx N back t) = fsts ls ((idxs N back).drop t) := by
 have hl : t < (idxs N back).length := by rw [zer]; exact ht
 have h1 : idxs N back = (idxs N back).take t ++ idx N back t :: (idxs N back).drop (t + 1) := by
  conv => lhs; rw [← List.take_append_drop t (idxs N back), List.drop_eq_getElem_cons hl, zcr]
 unfold eachL each
 have h2 : idx N back t ∉ (idxs N back).take t := by
  intro hm
  obtain ⟨s, hs, he⟩ := List.getElem_of_mem hm
  rw [List.getElem_take, zcr] at he
  have := zkR he
  rw [List.length_take] at hs
  omega
 rw [h1, zhB ls _ _ _ h2, ← h1, List.drop_eq_getElem_cons hl, zcr]
theorem zht (ls : Nat → Lay) (N : Nat) (back : Bool) (t i : Nat) (ht : t < N) : hits ls N back (idx N back t) i = true ↔ ∃ s, t ≤ s ∧ s < N ∧ (idx N back s).toNat = i ∧ ∀ q, t ≤ q → q < s → lt ls (idx N back q) ≠ lt ls (idx N back s) := by
 unfold hits
 rw [zjP ls N back t ht, List.any_eq_true]
 have h3 := (zgn ls ((idxs N back).drop t)).2.2
 have hg : ∀ s (hs : s < ((idxs N back).drop t).length), ((idxs N back).drop t)[s] = idx N back (t + s) := fun s hs => by rw [List.getElem_drop, zcr]
 have hlen : ((idxs N back).drop t).length = N - t := by rw [List.length_drop, zer]
 constructor
 ·
  rintro ⟨e, he, hi⟩
  obtain ⟨s, hs, h4, h5⟩ := (h3 e.2.1).1 ⟨e, he, rfl⟩
  rw [hg s hs] at h4
  refine ⟨t + s, by omega, by omega, by rw [← h4]; exact beq_iff_eq.1 hi, fun q hq1 hq2 => ?_⟩
  have := h5 (q - t) o9
  rwa [hg _ o9, hg _ hs, show t + (q - t) = q by omega] at this
 ·
  rintro ⟨s, h1, h2, h4, h5⟩
  obtain ⟨e, he, hee⟩ := (h3 (idx N back s)).2 ⟨s - t, by omega, by rw [hg _ o9]; congr 1; omega, fun q hq => by
   rw [hg _ o9, hg _ o9, show t + (s - t) = s by omega]
   exact h5 (t + q) o9 o9⟩
  exact ⟨e, he, by rw [hee]; exact beq_iff_eq.2 h4⟩
theorem zgo (ls : Nat → Lay) (N : Nat) (back : Bool) (i : Nat) : ((fsts ls (idxs N back)).any fun e => true && hits ls N back e.2.1 i) = true ↔
  ∃ t s, t ≤ s ∧ s < N ∧ (idx N back s).toNat = i ∧ (∀ q, q < t → lt ls (idx N back q) ≠ lt ls (idx N back t)) ∧ ∀ q, t ≤ q → q < s → lt ls (idx N back q) ≠ lt ls (idx N back s) := by
 rw [List.any_eq_true]
 have h3 := (zgn ls (idxs N back)).2.2
 constructor
 ·
  rintro ⟨e, he, hh⟩
  rw [Bool.true_and] at hh
  obtain ⟨t, ht, h4, h5⟩ := (h3 e.2.1).1 ⟨e, he, rfl⟩
  rw [zcr] at h4
  rw [zer] at ht
  rw [h4, zht ls N back t i ht] at hh
  obtain ⟨s, h1, h2, h6, h7⟩ := hh
  refine ⟨t, s, h1, h2, h6, fun q hq => ?_, h7⟩
  have := h5 q hq
  rwa [zcr, zcr] at this
 ·
  rintro ⟨t, s, h1, h2, h4, h5, h6⟩
  obtain ⟨e, he, hee⟩ := (h3 (idx N back t)).2 ⟨t, by rw [zer]; omega, by rw [zcr], fun q hq => by rw [zcr, zcr]; exact h5 q hq⟩
  refine ⟨e, he, ?_⟩
  rw [Bool.true_and, hee, zht ls N back t i o9]
  exact ⟨s, h1, h2, h4, h6⟩
def let_ (ls : Nat → Lay) (i : Nat) : Letter := ((ls i).1, (ls i).2.1)
theorem zky (ls : Nat → Lay) (i : Int) : lt ls i = let_ ls i.toNat := rfl
theorem zh6 (ls : Nat → Lay) (N i : Nat) (hi : i < N) : ((fsts ls (idxs N false)).any fun e => true && hits ls N false e.2.1 i) = true ↔ KeptF (let_ ls) (· < N) i := by
 rw [zgo]
 have hx : ∀ q : Nat, idx N false q = (q : Int) := fun q => rfl
 simp only [hx, zky, Int.toNat_natCast]
 constructor
 ·
  rintro ⟨t, s, h1, h2, rfl, h4, h5⟩
  exact ⟨t, h1, Nat.lt_of_le_of_lt h1 h2, fun k _ hk => h4 k hk, fun k _ h6 h7 => h5 k h6 h7⟩
 ·
  rintro ⟨t, h1, h2, h4, h5⟩
  exact ⟨t, i, h1, hi, rfl, fun k hk => h4 k (Nat.lt_trans hk h2) hk, fun k h6 h7 => h5 k (Nat.lt_trans h7 hi) h6 h7⟩
theorem zia (ls : Nat → Lay) (N i : Nat) (hi : i < N) : ((fsts ls (idxs N true)).any fun e => true && hits ls N true e.2.1 i) = true ↔ KeptB (let_ ls) (· < N) i := by
 rw [zgo]
 have hx : ∀ q : Nat, idx N true q = (N : Int) - 1 - q := fun q => rfl
 simp only [hx, zky]
 have hn : ∀ q : Nat, ((N : Int) - 1 - q).toNat = N - 1 - q := fun q => by omega
 simp only [hn]
 constructor
 ·
  rintro ⟨t, s, h1, h2, rfl, h4, h5⟩
  refine ⟨N - 1 - t, by omega, by show N - 1 - t < N; omega, fun k hk h6 => ?_, fun k hk h6 h7 => ?_⟩
  ·
   have hk' : k < N := hk
   have := h4 (N - 1 - k) o9
   rwa [show N - 1 - (N - 1 - k) = k by omega] at this
  ·
   have hk' : k < N := hk
   have := h5 (N - 1 - k) o9 o9
   rwa [show N - 1 - (N - 1 - k) = k by omega] at this
 ·
  rintro ⟨j, h1, h2, h4, h5⟩
  have h2' : j < N := h2
  refine ⟨N - 1 - j, N - 1 - i, by omega, by omega, by omega, fun k hk => ?_, fun k h6 h7 => ?_⟩
  ·
   rw [show N - 1 - (N - 1 - j) = j by omega]
   exact h4 _ (by show N - 1 - k < N; omega) o9
  ·
   rw [show N - 1 - (N - 1 - i) = i by omega]
   exact h5 _ (by show N - 1 - k < N; omega) o9 o9
theorem ziq (ls : Nat → Lay) (N : Nat) (back : Bool) (ms : List Bool) : (marked ls N back ms).length = N := by simp [marked, rowAt]
theorem zio (ls : Nat → Lay) (N i : Nat) (hi : i < N) : (marked ls N true (marked ls N false (List.replicate N false))).getD i false = true ↔ Kept (let_ ls) (· < N) i := by
 have hg : ∀ b (ms : List Bool), (marked ls N b ms).getD i false = (ms.getD i false || (fsts ls (idxs N b)).any fun e => true && hits ls N b e.2.1 i) := fun b ms => by
  simp [marked, rowAt, hi]
 rw [hg, hg, Bool.or_eq_true, Bool.or_eq_true, zh6 ls N i hi, zia ls N i hi]
 constructor
 ·
  rintro ((h | h) | h)
  ·
   simp [List.getD_eq_getElem?_getD, List.getElem?_replicate, hi] at h
  ·
   exact ⟨hi, .inl h⟩
  ·
   exact ⟨hi, .inr h⟩
 ·
  rintro ⟨_, h | h⟩
  ·
   exact .inl (.inr h)
  ·
   exact .inr h
end Go.Proofs.YtinkbljjpafadaaHChain
end

section
namespace Go.Proofs.Ytinkbljjpafadaa.Pure
open Go.RowKit Go.Proofs.Ytinkbljjpafadaa.PAll Go.Proofs.YtinkbljjpafadaaW.PrintWords Go.Proofs.YtinkbljjpafadaaW.PrintLast Go.Proofs.YtinkbljjpafadaaHChain
abbrev Lr := S35
def fL (x : Lr) : Letter := (x.f0, x.f1)
theorem zib {A B : Type} {x : Nat → A} {y : Nat → B} {S : Nat → Prop} (h : ∀ i k, S i → S k → (x i = x k ↔ y i = y k)) (i : Nat) : Go.Proofs.YtinkbljjpafadaaHChain.Kept x S i ↔ Go.Proofs.YtinkbljjpafadaaHChain.Kept y S i := by
 unfold Go.Proofs.YtinkbljjpafadaaHChain.Kept KeptF KeptB
 refine and_congr_right fun hi => or_congr (exists_congr fun j => and_congr_right fun _ => and_congr_right fun hj => and_congr ?_ ?_) (exists_congr fun j => and_congr_right fun _ => and_congr_right fun hj => and_congr ?_ ?_)
 ·
  exact forall_congr' fun k => imp_congr_right fun hk => imp_congr_right fun _ => not_congr (h k j hk hj)
 ·
  exact forall_congr' fun k => imp_congr_right fun hk => imp_congr_right fun _ => imp_congr_right fun _ => not_congr (h k i hk hi)
 ·
  exact forall_congr' fun k => imp_congr_right fun hk => imp_congr_right fun _ => not_congr (h k j hk hj)
 ·
  exact forall_congr' fun k => imp_congr_right fun hk => imp_congr_right fun _ => imp_congr_right fun _ => not_congr (h k i hk hi)
theorem zgB {B : Type} (a : B) (r : List B) (Q : List Nat) : pick (a :: r) (Q.map Nat.succ) = pick r Q := by
 unfold pick
 rw [List.filterMap_map]
 rfl
theorem zhU : ∀ (l : List Lr) (s : List Bool), l.length = s.length → zaD.sel l s = pick l ((List.range l.length).filter fun i => s.getD i false)
 | [], [], _ => rfl
 | [], _ :: _, h => by simp at h
 | _ :: _, [], h => by simp at h
 | x :: r, b :: s, h => by
  have ih := zhU r s (by simpa using h)
  rw [List.length_cons, List.range_succ_eq_map, List.filter_cons]
  have hm : ((List.map Nat.succ (List.range r.length)).filter fun i => (b :: s).getD i false) = ((List.range r.length).filter fun i => s.getD i false).map Nat.succ := by
   rw [List.filter_map]; rfl
  rw [hm]
  cases b
  ·
   simp only [List.getD_cons_zero, Bool.false_eq_true, if_false, zaD.sel]
   rw [zgB, ih]
  ·
   simp only [List.getD_cons_zero, if_true, zaD.sel]
   rw [ih, ← zgB x r]
   unfold pick
   rw [List.filterMap_cons_some (b := x) s9]
open Classical in
theorem zk8 (l : List Lr) : zaD.sel l (zaD.ms l) = norm fL l := by
 rw [zhU l _ (by rw [zaD.ms, ziq]), zc8]
 congr 1
 refine List.filter_congr fun i hi => ?_
 have hi' := List.mem_range.1 hi
 rw [Bool.eq_iff_iff, decide_eq_true_iff, zaD.ms, zio _ _ _ hi']
 refine zib (fun a b ha hb => ?_) i
 have ha' : a < l.length := ha
 have hb' : b < l.length := hb
 simp [let_, zaD.lay, ha', hb', fL]
theorem zfy (l : List Lr) (h : l.length < 4398046511104) : zaD.f l = some (norm fL l) := by
 unfold zaD.f
 rw [if_pos h, zk8]
theorem zep {A B : Type} (f : B → A) (l : List B) : (norm f l).length ≤ l.length := by
 rw [zc8, zcx]
 ·
  exact Nat.le_trans (List.length_filter_le _ _) s9
 ·
  intro i hi; exact List.mem_range.1 (List.mem_filter.1 hi).1
theorem w1 {i n : Nat} (h : i < n) (hn : n < 4398046511104) : wrap64 ((i : Int) + 1) = ((i + 1 : Nat) : Int) := by unfold wrap64; omega
theorem rdT (l : List Lr) (i : Nat) (h : i < l.length) : za3 l (i : Int) = l[i] := by
 unfold za3
 rw [Int.toNat_natCast, List.getD_eq_getElem?_getD, List.getElem?_eq_getElem h]; rfl
theorem zkF (l : List Lr) (hl : l.length < 4398046511104) : ∀ (k i : Nat), i ≤ l.length → l.length < k + i → zau.l0 k l l (i : Int) = some true
 | 0, i, h1, h2 => by omega
 | k + 1, i, h1, h2 => by
  rw [zau.l0]
  by_cases h : i < l.length
  ·
   rw [if_pos o9, if_pos o9, if_pos o9, if_neg s9, w1 h hl]
   exact zkF l hl k (i + 1) h o9
  ·
   rw [if_neg o9]
theorem same (l : List Lr) (hl : l.length < 4398046511104) (k : Nat) (hk : l.length < k) : zau.f k l l = some true := by
 unfold zau.f
 rw [if_pos rfl]
 exact zkF l hl k 0 o9 o9
theorem toL {x y : ByteArray} : x.toList = y.toList ↔ x = y := ⟨fun h => toList_inj h, fun h => by rw [h]⟩
end Go.Proofs.Ytinkbljjpafadaa.Pure
end

section
namespace Go.Proofs.YtinkbljjpafadaaEv
def Evn {α : Type} (g : Nat → Option α) (v : α) : Prop := ∃ K, ∀ k, K ≤ k → g k = some v
section
variable {α β : Type}
theorem Evn.ret (v : α) : Evn (fun _ => some v) v := ⟨0, fun _ _ => rfl⟩
theorem Evn.bind {g : Nat → Option α} {h : Nat → α → Option β} {a : α} {b : β} (hg : Evn g a) (hh : Evn (fun k => h k a) b) : Evn (fun k => (g k).bind fun x => h k x) b := by
 obtain ⟨K1, h1⟩ := hg
 obtain ⟨K2, h2⟩ := hh
 exact ⟨max K1 K2, fun k hk => by show (g k).bind (fun x => h k x) = some b; rw [h1 k o9]; exact h2 k o9⟩
theorem Evn.cbind {a : Option α} {h : Nat → α → Option β} {v : α} {b : β} (ha : a = some v) (hh : Evn (fun k => h k v) b) : Evn (fun k => a.bind fun x => h k x) b := by
 subst ha
 exact hh
theorem Evn.succ {g : Nat → Option α} {v : α} (h : Evn (fun k => g (k + 1)) v) : Evn g v := by
 obtain ⟨K, h⟩ := h
 exact ⟨K + 1, fun k hk => by
  obtain ⟨j, rfl⟩ : ∃ j, k = j + 1 := ⟨k - 1, by omega⟩
  exact h j o9⟩
theorem Evn.congr {g g' : Nat → Option α} {v : α} (e : ∀ k, g k = g' k) (h : Evn g' v) : Evn g v := by
 obtain ⟨K, h⟩ := h
 exact ⟨K, fun k hk => (e k).trans (h k hk)⟩
theorem Evn.pos {p : Prop} [Decidable p] {g h : Nat → Option α} {v : α} (hp : p) (hg : Evn g v) : Evn (fun k => if p then g k else h k) v := Evn.congr (fun k => if_pos hp) hg
theorem Evn.neg {p : Prop} [Decidable p] {g h : Nat → Option α} {v : α} (hp : ¬ p) (hg : Evn h v) : Evn (fun k => if p then g k else h k) v := Evn.congr (fun k => if_neg hp) hg
theorem Evn.ex {g : Nat → Option α} {v : α} (h : Evn g v) : ∃ k, g k = some v := by
 obtain ⟨K, h⟩ := h
 exact ⟨K, h K (Nat.le_refl _)⟩
theorem Evn.of {g : Nat → Option α} {v : α} (K : Nat) (h : ∀ k, K ≤ k → g k = some v) : Evn g v := ⟨K, h⟩
theorem Evn.val {g : Nat → Option α} {v v' : α} (h : Evn g v) (e : v = v') : Evn g v' := e ▸ h
end
end Go.Proofs.YtinkbljjpafadaaEv
end

section
namespace Go.Proofs.Ytinkbljjpafadaa.Pure
open Go.RowKit Go.Proofs.Ytinkbljjpafadaa.PAll Go.Proofs.YtinkbljjpafadaaW.PrintWords Go.Proofs.YtinkbljjpafadaaW.PrintLast Go.Proofs.YtinkbljjpafadaaHChain Go.Proofs.YtinkbljjpafadaaEv Go.Proofs.YtinkbljjpafadaaTab
abbrev Cl := S64
abbrev Mb := S33
theorem rdV (l : List (S58)) (i : Nat) (h : i < l.length) : zbG l (i : Int) = l[i] := by
 unfold zbG
 rw [Int.toNat_natCast, List.getD_eq_getElem?_getD, List.getElem?_eq_getElem h]; rfl
theorem rdS (l : List (S61)) (i : Nat) (h : i < l.length) : za6 l (i : Int) = l[i] := by
 unfold za6
 rw [Int.toNat_natCast, List.getD_eq_getElem?_getD, List.getElem?_eq_getElem h]; rfl
open Classical in
noncomputable def cls : List ByteArray → List Lr → List ByteArray
 | out, [] => out
 | out, x :: r => cls (if x.f1 ∈ out then out else out ++ [x.f1]) r
open Classical in
theorem zhm (o : List ByteArray) (ho : o.length < 4294967296) (x : ByteArray) : za5.f o x = some (decide (x ∈ o)) := by
 unfold za5.f zaB.f
 rw [if_pos o9]
 show some _ = _
 rw [zaB.zjt]
 congr 1
 rw [Bool.eq_iff_iff]
 simp only [List.any_eq_true, decide_eq_true_eq, toL]
 exact ⟨fun ⟨y, h1, h2⟩ => h2 ▸ h1, fun h => ⟨x, h, rfl⟩⟩
open Classical in
theorem ziK (l : List Lr) (hl : l.length < 4294967296) : ∀ (d i : Nat) (o : List ByteArray), d = l.length - i → i ≤ l.length → o.length ≤ i + 1 → Evn (fun k => zaK.l0 k o l (l.length : Int) (i : Int)) (cls o (l.drop i)) := by
 intro d
 induction d with
 | zero =>
  intro i o hd hi ho
  refine Evn.succ (Evn.neg o9 ((Evn.ret _).val ?_))
  rw [List.drop_eq_nil_of_le o9]; rfl
 | succ d ih =>
  intro i o hd hi ho
  have h : i < l.length := by omega
  rw [List.drop_eq_getElem_cons h, cls]
  refine Evn.succ (Evn.pos o9 (Evn.pos o9 (Evn.pos o9 (Evn.cbind (h := fun k (t : Bool) => if t = true then _ else _) (zhm o o9 _) ?_))))
  rw [rdT l i h, w1 h o9]
  by_cases hm : l[i].f1 ∈ o
  ·
   rw [if_pos hm]
   exact Evn.pos (by simpa using hm) (ih (i + 1) o o9 o9 o9)
  ·
   rw [if_neg hm]
   exact Evn.neg (by simpa using hm) (Evn.pos o9 (ih (i + 1) _ o9 o9 (by simp; omega)))
theorem zie (a : ByteArray) (l : List Lr) (hl : l.length < 4294967296) : Evn (fun k => zaK.f k a l) (cls [a] l) := ziK l hl l.length 0 [a] o9 o9 s9
theorem zi9 (c : ByteArray) : ∀ (l : List Lr) (o : List ByteArray), c ∈ cls o l ↔ c ∈ o ∨ ∃ x ∈ l, x.f1 = c
 | [], o => by simp [cls]
 | x :: r, o => by
  rw [cls, zi9 c r]
  by_cases h : x.f1 ∈ o
  ·
   rw [if_pos h]
   constructor
   ·
    rintro (h1 | ⟨y, h1, h2⟩)
    ·
     exact .inl h1
    ·
     exact .inr ⟨y, List.mem_cons_of_mem _ h1, h2⟩
   ·
    rintro (h1 | ⟨y, h1, h2⟩)
    ·
     exact .inl h1
    ·
     rcases List.mem_cons.1 h1 with rfl | h1
     ·
      exact .inl (h2 ▸ h)
     ·
      exact .inr ⟨y, h1, h2⟩
  ·
   rw [if_neg h]
   simp only [List.mem_append, List.mem_singleton, List.mem_cons]
   constructor
   ·
    rintro ((h1 | h1) | ⟨y, h1, h2⟩)
    ·
     exact .inl h1
    ·
     exact .inr ⟨x, .inl rfl, (by simpa using h1 : c = x.f1).symm⟩
    ·
     exact .inr ⟨y, .inr h1, h2⟩
   ·
    rintro (h1 | ⟨y, h1 | h1, h2⟩)
    ·
     exact .inl (.inl h1)
    ·
     exact .inl (.inr (by rw [← h2, h1]; simp))
    ·
     exact .inr ⟨y, h1, h2⟩
open Classical in
theorem zg8 : ∀ (l : List Lr) (o : List ByteArray), (cls o l).length ≤ o.length + l.length
 | [], o => by simp [cls]
 | x :: r, o => by
  rw [cls]
  by_cases h : x.f1 ∈ o
  ·
   rw [if_pos h]
   have := zg8 r o
   simp only [List.length_cons]; omega
  ·
   rw [if_neg h]
   have := zg8 r (o ++ [x.f1])
   simp only [List.length_append, List.length_cons, List.length_nil] at this ⊢; omega
structure TB (t : List Cl) : Prop where
 len : t.length ≤ 9
 fs : ∀ c ∈ t, c.f2.length ≤ 7
 ms : ∀ c ∈ t, c.f3.length ≤ 7
 ps : ∀ c ∈ t, ∀ m ∈ c.f3, m.f1.length ≤ 10
theorem zc6 (t : List Cl) : ∀ (k : Nat) (pre : List Nat) (nm : ByteArray), (lineP t k pre nm).length ≤ k
 | 0, _, _ => by simp [lineP]
 | k + 1, pre, nm => by
  unfold lineP
  split
  ·
   simp
  ·
   split
   ·
    simp
   ·
    have := zc6 t k
    simp only [List.length_cons]
    have h1 := this (pre ++ [(idxC nm t 0).toNat]) (clsAt t (idxC nm t 0).toNat).f1
    omega
theorem zdH (t : List Cl) (p : Nat) (h : p < t.length) : clsAt t p ∈ t := by
 unfold clsAt zar
 rw [Int.toNat_natCast, List.getD_eq_getElem?_getD, List.getElem?_eq_getElem h]
 exact List.getElem_mem h
theorem zfE {α : Type} (f : Nat → List α) (b : Nat) : ∀ (l : List Nat), (∀ p ∈ l, (f p).length ≤ b) → (l.flatMap f).length ≤ l.length * b
 | [], _ => by simp
 | x :: r, h => by
  have h1 := zfE f b r (fun p hp => h p (List.mem_cons_of_mem _ hp))
  have h2 := h x List.mem_cons_self
  simp only [List.flatMap_cons, List.length_append, List.length_cons]
  rw [Nat.succ_mul]; omega
section
variable {t : List Cl} (ht : TB t)
include ht
theorem TB.line (c : ByteArray) : (lineL t c).length ≤ 10 := by
 have := zc6 t (t.length + 1) [] c
 have h := ht.len
 unfold lineL; omega
theorem TB.fields (c : ByteArray) : (zb5 t c).length ≤ 70 := by
 have h1 := ht.line c
 have h2 := zfE (fun p => (clsAt t p).f2) 7 (lineL t c).reverse (fun p hp => ht.fs _ (zdH t p (zcq t _ _ _ _ (List.mem_reverse.1 hp))))
 rw [List.length_reverse] at h2
 exact Nat.le_trans h2 o9
theorem TB.all (c : ByteArray) : zaY.all t c ≤ 70 := by
 have h1 := ht.line c
 have h2 := zfE (fun p => (clsAt t p).f3) 7 (lineL t c).reverse (fun p hp => ht.ms _ (zdH t p (zcq t _ _ _ _ (List.mem_reverse.1 hp))))
 rw [List.length_reverse] at h2
 exact Nat.le_trans h2 o9
theorem TB.small : zaY.small t = true := by
 unfold zaY.small
 have h := ht.len
 simp only [Bool.and_eq_true, decide_eq_true_eq, List.all_eq_true]
 exact ⟨by omega, fun x hx => ⟨by have := ht.ms x hx; omega, fun m hm => by have := ht.ps x hx m hm; omega⟩⟩
end
theorem zfY (out : List (S61)) (m : S61) : (putS out m).length ≤ out.length + 1 := by
 unfold putS
 split <;> simp
theorem zhr : ∀ (l out : List (S61)), (l.foldl putS out).length ≤ out.length + l.length
 | [], out => by simp
 | m :: r, out => by
  have h1 := zhr r (putS out m)
  have h2 := zfY out m
  simp only [List.foldl_cons, List.length_cons]; omega
theorem TB.meths {t : List Cl} (ht : TB t) (c : ByteArray) : (zdL t c).length ≤ 70 := by
 have h1 := zhr ((lineL t c).reverse.flatMap fun p => (clsAt t p).f3) []
 have h2 := ht.all c
 unfold zaY.all at h2
 unfold zdL zji
 simp only [List.length_nil] at h1; omega
def mem (t : List Cl) (c : ByteArray) : List Mb := (zb5 t c).map (fun v => ⟨v.f0, -1⟩) ++ (zdL t c).map (fun m => ⟨m.f0, (m.f1.length : Int)⟩)
theorem zkm (o : List Mb) (l : List (S61)) (hl : l.length ≤ 70) : ∀ (d i : Nat) (x : List Mb), d = l.length - i → i ≤ l.length → x.length ≤ 70 + i → Evn (fun k => zay.l1 k x l (l.length : Int) (i : Int)) (x ++ (l.drop i).map (fun m => ⟨m.f0, (m.f1.length : Int)⟩)) := by
 intro d
 induction d with
 | zero =>
  intro i x hd hi hx
  refine Evn.succ (Evn.neg o9 ((Evn.ret _).val ?_))
  rw [List.drop_eq_nil_of_le o9]; simp
 | succ d ih =>
  intro i x hd hi hx
  have h : i < l.length := by omega
  rw [List.drop_eq_getElem_cons h]
  refine Evn.succ (Evn.pos o9 (Evn.pos o9 (Evn.pos o9 (Evn.pos o9 ?_))))
  rw [rdS l i h, w1 h o9]
  refine (ih (i + 1) (x ++ [⟨l[i].f0, (l[i].f1.length : Int)⟩]) o9 o9 (by simp; omega)).val ?_
  simp only [List.append_assoc, List.map_cons, List.cons_append, List.nil_append]
theorem zj5 (t : List Cl) (ht : TB t) (c : ByteArray) (l : List (S58)) (hl : l.length ≤ 70) : ∀ (d i : Nat) (x : List Mb), d = l.length - i → i ≤ l.length → x.length ≤ i → Evn (fun k => zay.l0 k t c x l (l.length : Int) (i : Int)) (x ++ (l.drop i).map (fun v => ⟨v.f0, -1⟩) ++ (zdL t c).map (fun m => ⟨m.f0, (m.f1.length : Int)⟩)) := by
 intro d
 induction d with
 | zero =>
  intro i x hd hi hx
  refine Evn.succ (Evn.neg o9 (Evn.cbind (a := zaY.f t c) (v := zdL t c) ?_ ?_))
  ·
   unfold zaY.f
   rw [if_pos ⟨ht.small, by have := ht.all c; omega⟩]
  ·
   refine (zkm [] (zdL t c) (ht.meths c) _ 0 x rfl o9 o9).val ?_
   rw [List.drop_eq_nil_of_le (show l.length ≤ i by omega)]; simp
 | succ d ih =>
  intro i x hd hi hx
  have h : i < l.length := by omega
  rw [List.drop_eq_getElem_cons h]
  refine Evn.succ (Evn.pos o9 (Evn.pos o9 (Evn.pos o9 (Evn.pos o9 ?_))))
  rw [rdV l i h, w1 h o9]
  refine (ih (i + 1) (x ++ [⟨l[i].f0, -1⟩]) o9 o9 (by simp; omega)).val ?_
  simp only [List.append_assoc, List.map_cons, List.cons_append, List.nil_append]
theorem zdW {t : List Cl} (ht : TB t) (c : ByteArray) : Evn (fun k => zay.f k t c) (mem t c) := by
 refine Evn.cbind (a := zbZ.f t c) (v := zb5 t c) ?_ ?_
 ·
  unfold zbZ.f
  rw [if_pos ⟨by have := ht.len; omega, by have := ht.fields c; omega⟩]
 ·
  refine (zj5 t ht c (zb5 t c) (ht.fields c) _ 0 [] rfl o9 s9).val ?_
  simp [mem]
theorem zf1 {t : List Cl} (ht : TB t) (c : ByteArray) : (mem t c).length ≤ 140 := by
 have h1 := ht.fields c
 have h2 := ht.meths c
 simp only [mem, List.length_append, List.length_map]; omega
end Go.Proofs.Ytinkbljjpafadaa.Pure
end

section
namespace Go.Proofs.Ytinkbljjpafadaa.Pure
open Go.RowKit Go.Proofs.Ytinkbljjpafadaa.PAll Go.Proofs.YtinkbljjpafadaaW.PrintWords Go.Proofs.YtinkbljjpafadaaW.PrintLast Go.Proofs.YtinkbljjpafadaaHChain
theorem zjT (l m : List Lr) (h : l.length + m.length < 4294967296) : zb6.f l m = some (norm fL (l ++ m)) := by
 unfold zb6.f
 have e : zbb.f [l, m] = some (l ++ m) := by
  unfold zbb.f
  rw [if_pos (by simp; omega)]
  simp
 rw [e, Option.bind_some, zfy _ (by simp; omega)]
 rfl
theorem zlT (l : List Lr) (x : Lr) (h : l.length < 4294967290) : zcu.f l x.f0 x.f1 x.f2 = some (norm fL (l ++ [x])) := by
 unfold zcu.f
 rw [zjT l [x] (by simp; omega)]
 rfl
end Go.Proofs.Ytinkbljjpafadaa.Pure
end

section
namespace Go.Proofs.YtinkbljjpafadaaHChain
section
variable {A B : Type}
theorem zga (n : Nat) : (List.range n).map (n - 1 - ·) = (List.range n).reverse := by
 refine List.ext_getElem s9 fun i h1 h2 => ?_
 rw [List.getElem_map, List.getElem_range, List.getElem_reverse, List.getElem_range, List.length_range]
theorem zhc {x y : Nat → A} {N : Nat} (h : ∀ k, k < N → y k = x (N - 1 - k)) {i : Nat} (hi : i < N) : Kept y (· < N) i ↔ Kept x (· < N) (N - 1 - i) := by
 unfold Kept
 refine and_congr (iff_of_true hi (by show N - 1 - i < N; omega)) ?_
 have h1 : KeptF y (· < N) i ↔ KeptB x (· < N) (N - 1 - i) := by
  constructor
  ·
   rintro ⟨j, h1, h2, h3, h4⟩
   have h2' : j < N := h2
   refine ⟨N - 1 - j, by omega, by show _ < N; omega, fun k hk hlt => ?_, fun k hk h5 h6 => ?_⟩
   ·
    have hk' : k < N := hk
    have := h3 (N - 1 - k) (by show _ < N; omega) o9
    rwa [h _ o9, h _ h2', show N - 1 - (N - 1 - k) = k by omega] at this
   ·
    have hk' : k < N := hk
    have := h4 (N - 1 - k) (by show _ < N; omega) o9 o9
    rwa [h _ o9, h _ hi, show N - 1 - (N - 1 - k) = k by omega] at this
  ·
   rintro ⟨j, h1, h2, h3, h4⟩
   have h2' : j < N := h2
   refine ⟨N - 1 - j, by omega, by show _ < N; omega, fun k hk hlt => ?_, fun k hk h5 h6 => ?_⟩
   ·
    have hk' : k < N := hk
    rw [h _ hk', h _ o9, show N - 1 - (N - 1 - j) = j by omega]
    exact h3 _ (by show _ < N; omega) o9
   ·
    have hk' : k < N := hk
    rw [h _ hk', h _ hi]
    exact h4 _ (by show _ < N; omega) o9 o9
 have h2 : KeptB y (· < N) i ↔ KeptF x (· < N) (N - 1 - i) := by
  constructor
  ·
   rintro ⟨j, h1, h2, h3, h4⟩
   have h2' : j < N := h2
   refine ⟨N - 1 - j, by omega, by show _ < N; omega, fun k hk hlt => ?_, fun k hk h5 h6 => ?_⟩
   ·
    have hk' : k < N := hk
    have := h3 (N - 1 - k) (by show _ < N; omega) o9
    rwa [h _ o9, h _ h2', show N - 1 - (N - 1 - k) = k by omega] at this
   ·
    have hk' : k < N := hk
    have := h4 (N - 1 - k) (by show _ < N; omega) o9 o9
    rwa [h _ o9, h _ hi, show N - 1 - (N - 1 - k) = k by omega] at this
  ·
   rintro ⟨j, h1, h2, h3, h4⟩
   have h2' : j < N := h2
   refine ⟨N - 1 - j, by omega, by show _ < N; omega, fun k hk hlt => ?_, fun k hk h5 h6 => ?_⟩
   ·
    have hk' : k < N := hk
    rw [h _ hk', h _ o9, show N - 1 - (N - 1 - j) = j by omega]
    exact h3 _ (by show _ < N; omega) o9
   ·
    have hk' : k < N := hk
    rw [h _ hk', h _ hi]
    exact h4 _ (by show _ < N; omega) o9 o9
 rw [h1, h2]
 exact Or.comm
theorem zgC (l : List B) {k : Nat} (h : k < l.length) : l.reverse[k]? = l[l.length - 1 - k]? := by
 rw [List.getElem?_reverse h]
theorem zdx {C D : Type} {f g : C → Option D} : ∀ (l : List C), (∀ x ∈ l, f x = g x) → l.filterMap f = l.filterMap g
 | [], _ => rfl
 | x :: r, h => by
  rw [List.filterMap_cons, List.filterMap_cons, h x List.mem_cons_self, zdx r fun y hy => h y (List.mem_cons_of_mem _ hy)]
open Classical in
theorem zg6 (f : B → A) (l : List B) : norm f l.reverse = (norm f l).reverse := by
 rw [zc8, zc8, List.length_reverse]
 unfold pick
 rw [← List.filterMap_reverse, ← List.filter_reverse, ← zga, List.filter_map, List.filterMap_map]
 have e1 : (List.range l.length).filter (fun i => decide (Kept (fun k => (l.reverse[k]?).map f) (· < l.length) i)) = (List.range l.length).filter ((fun i => decide (Kept (fun k => (l[k]?).map f) (· < l.length) i)) ∘ (l.length - 1 - ·)) := by
  refine List.filter_congr fun i hi => ?_
  have hi' := List.mem_range.1 hi
  exact decide_eq_decide.2 (zhc (x := fun k => (l[k]?).map f) (y := fun k => (l.reverse[k]?).map f) (fun k hk => by simp only [zgC l hk]) hi')
 rw [e1]
 refine zdx _ fun i hi => ?_
 exact zgC l (List.mem_range.1 (List.mem_filter.1 hi).1)
open Classical in
theorem zcS (f : B → A) (l : List B) : ∃ P : List Nat, norm f l = pick l P ∧ (∀ i ∈ P, i < l.length) ∧ Lists P fun i => Kept (fun k => (l[k]?).map f) (· < l.length) i := by
 refine ⟨_, zc8 f l, fun i hi => List.mem_range.1 (List.mem_filter.1 hi).1, ?_⟩
 have := (Lists.range l.length).filter fun i => decide (Kept (fun k => (l[k]?).map f) (· < l.length) i)
 exact ⟨this.sorted, fun i => by rw [this.mem, decide_eq_true_iff]; exact ⟨fun h => h.2, fun h => ⟨h.1, h⟩⟩⟩
theorem zh0 (n m : Nat) (q : Nat → Bool) : (List.range (n + m)).filter q = (List.range n).filter q ++ ((List.range m).filter fun i => q (n + i)).map (n + ·) := by
 rw [List.range_add, List.filter_append, List.filter_map]
 rfl
theorem zhC (a b : List B) (q : Nat → Bool) : pick (a ++ b) ((List.range (a ++ b).length).filter q) = pick a ((List.range a.length).filter q) ++ pick b ((List.range b.length).filter fun i => q (a.length + i)) := by
 rw [List.length_append, zh0]
 unfold pick
 rw [List.filterMap_append, List.filterMap_map]
 congr 1
 ·
  refine zdx _ fun i hi => ?_
  exact List.getElem?_append_left (List.mem_range.1 (List.mem_filter.1 hi).1)
 ·
  refine zdx _ fun i hi => ?_
  show (a ++ b)[a.length + i]? = b[i]?
  rw [List.getElem?_append_right o9]
  congr 1
  omega
theorem zhI (a : List B) (q : Nat → Bool) (h : ∀ i, i < a.length → q i = true) : pick a ((List.range a.length).filter q) = a := by
 rw [List.filter_eq_self.2 fun i hi => h i (List.mem_range.1 hi), zdX]
theorem zj7 {C : Type} (g : B → C) (l : List B) (P : List Nat) : pick (l.map g) P = (pick l P).map g := by
 unfold pick
 rw [List.map_filterMap]
 refine zdx _ fun i _ => ?_
 simp
open Classical in
theorem zfn {C D : Type} (f0 : B → A) (f : C → D) (g : B → C) (hg : ∀ x y, f0 x = f0 y → f (g x) = f (g y)) (a c : List C) (l : List B) :
  norm f (a ++ (norm f0 l).map g ++ c) = norm f (a ++ l.map g ++ c) := by
 obtain ⟨L, hL⟩ : ∃ L, L = a ++ l.map g ++ c := ⟨_, rfl⟩
 have hlen : L.length = a.length + l.length + c.length := by rw [hL]; simp; omega
 let q : Nat → Bool := fun i => decide (i < a.length ∨ a.length + l.length ≤ i ∨ Kept (fun k => (l[k]?).map f0) (· < l.length) (i - a.length))
 have hp : a ++ (norm f0 l).map g ++ c = pick L ((List.range L.length).filter q) := by
  rw [hL, zhC, zhC]
  congr 1
  ·
   congr 1
   ·
    rw [zhI a q fun i hi => decide_eq_true (.inl hi)]
   ·
    rw [zc8, zj7, List.length_map]
    congr 2
    refine List.filter_congr fun i hi => ?_
    have hi' := List.mem_range.1 hi
    refine decide_eq_decide.2 ?_
    rw [show a.length + i - a.length = i by omega]
    exact ⟨fun h => .inr (.inr h), fun h => by rcases h with h | h | h; omega; omega; exact h⟩
  ·
   rw [zhI c _ fun i hi => decide_eq_true (.inr (.inl s9))]
 rw [hp, ← hL]
 refine zjd f L ((Lists.range L.length).filter q) (fun i hi => List.mem_range.1 (List.mem_filter.1 hi).1) fun i hk => ?_
 have hiL : i < L.length := hk.1
 refine ⟨hiL, decide_eq_true ?_⟩
 rcases Nat.lt_or_ge i a.length with h1 | h1
 ·
  exact .inl h1
 rcases Nat.lt_or_ge i (a.length + l.length) with h2 | h2
 case inr.inr => exact .inr (.inl h2)
 refine .inr (.inr ?_)
 obtain ⟨i, rfl⟩ : ∃ j, i = a.length + j := ⟨i - a.length, by omega⟩
 have hi : i < l.length := by omega
 rw [show a.length + i - a.length = i by omega]
 have hx : ∀ k, k < l.length → (L[a.length + k]?).map f = (l[k]?).map fun x => f (g x) := by
  intro k hk
  rw [hL, List.append_assoc, List.getElem?_append_right o9, List.getElem?_append_left (by simp; omega), show a.length + k - a.length = k by omega]
  simp
  rfl
 have hne : ∀ k m, k < l.length → m < l.length → (L[a.length + k]?).map f ≠ (L[a.length + m]?).map f → (l[k]?).map f0 ≠ (l[m]?).map f0 := by
  intro k m hk hm h he
  rw [hx k hk, hx m hm, List.getElem?_eq_getElem hk, List.getElem?_eq_getElem hm] at h
  rw [List.getElem?_eq_getElem hk, List.getElem?_eq_getElem hm] at he
  simp only [Option.map_some, ne_eq, Option.some.injEq] at h he
  exact h (hg _ _ he)
 refine ⟨hi, ?_⟩
 rcases hk.2 with ⟨j, hj1, hj2, hj3, hj4⟩ | ⟨j, hj1, hj2, hj3, hj4⟩
 ·
  left
  have hjL : j < L.length := hj2
  rcases Nat.lt_or_ge j a.length with h3 | h3
  ·
   refine ⟨i, Nat.le_refl _, hi, fun k hk hki => ?_, fun k hk h5 h6 => absurd h5 o9⟩
   have hk' : k < l.length := hk
   exact hne k i hk' hi (hj4 (a.length + k) (by show _ < L.length; omega) o9 o9)
  ·
   obtain ⟨j, rfl⟩ : ∃ m, j = a.length + m := ⟨j - a.length, by omega⟩
   refine ⟨j, by omega, by show j < l.length; omega, fun k hk hki => ?_, fun k hk h5 h6 => ?_⟩
   ·
    have hk' : k < l.length := hk
    exact hne k j hk' o9 (hj3 (a.length + k) (by show _ < L.length; omega) o9)
   ·
    have hk' : k < l.length := hk
    exact hne k i hk' hi (hj4 (a.length + k) (by show _ < L.length; omega) o9 o9)
 ·
  right
  have hjL : j < L.length := hj2
  rcases Nat.lt_or_ge j (a.length + l.length) with h3 | h3
  ·
   obtain ⟨j, rfl⟩ : ∃ m, j = a.length + m := ⟨j - a.length, by omega⟩
   refine ⟨j, by omega, by show j < l.length; omega, fun k hk hki => ?_, fun k hk h5 h6 => ?_⟩
   ·
    have hk' : k < l.length := hk
    exact hne k j hk' o9 (hj3 (a.length + k) (by show _ < L.length; omega) o9)
   ·
    have hk' : k < l.length := hk
    exact hne k i hk' hi (hj4 (a.length + k) (by show _ < L.length; omega) o9 o9)
  ·
   refine ⟨i, Nat.le_refl _, hi, fun k hk hki => ?_, fun k hk h5 h6 => absurd h6 o9⟩
   have hk' : k < l.length := hk
   exact hne k i hk' hi (hj4 (a.length + k) (by show _ < L.length; omega) o9 o9)
end
end Go.Proofs.YtinkbljjpafadaaHChain
end

section
namespace Go.Proofs.Ytinkbljjpafadaa.PAll
open Go.RowKit Go.Proofs.YtinkbljjpafadaaW.PrintWords Go.Proofs.YtinkbljjpafadaaW.PrintLast Go.Proofs.YtinkbljjpafadaaW.zaT
attribute [local go_sem] za7 zba zbo zbp zaW zaV za8 za9
attribute [local go_sem high] eqA33
mutual
def zas.l0 : Nat → List (S33) → List (S33) → Int → Option (Bool)
 | 0, _, _, _ => none
 | k + 1, x0, x1, x5 => if x5 < (x0.length : Int) then (zas.l1 k x0 x1 x5 false 0) else (some true)
def zas.l1 : Nat → List (S33) → List (S33) → Int → Bool → Int → Option (Bool)
 | 0, _, _, _, _, _ => none
 | k + 1, x0, x1, x5, x6, x7 => if x7 < (x1.length : Int) then (if x6 = true then (zas.l1 k x0 x1 x5 true (wrap64 (x7 + 1))) else (if 0 ≤ x5 then (if x5 < (x0.length : Int) then (if 0 ≤ x7 then (zas.l1 k x0 x1 x5 ((((zbH x0 x5).f0).toList) == (((zbH x1 x7).f0).toList) && (((zbH x0 x5).f1) == ((zbH x1 x7).f1))) (wrap64 (x7 + 1))) else (none)) else (none)) else (none))) else (if x6 = true then (zas.l0 k x0 x1 (wrap64 (x5 + 1))) else (some false))
end
def zas.f (k : Nat) (l0 : List (S33)) (l1 : List (S33)) : Option (Bool) := zas.l0 k l0 l1 0
theorem zas.zbM : ∀ k, (∀ y0 y1 y2, LeO (zas.l0 k y0 y1 y2) (zas.l0 (k + 1) y0 y1 y2)) ∧ (∀ y0 y1 y2 y3 y4, LeO (zas.l1 k y0 y1 y2 y3 y4) (zas.l1 (k + 1) y0 y1 y2 y3 y4))
 | 0 => ⟨fun _ _ _ r h => by simp [zas.l0] at h, fun _ _ _ _ _ r h => by simp [zas.l1] at h⟩
 | k + 1 => by
  obtain ⟨ih0, ih1⟩ := zas.zbM k
  refine ⟨?_, ?_⟩
  ·
   intro y0 y1 y2
   unfold zas.l0
   repeat' first
   | (with_reducible exact ih0 _ _ _)
   | (with_reducible exact ih1 _ _ _ _ _)
   | (with_reducible exact LeO.refl _)
   | (with_reducible exact LeO.none _)
   | (with_reducible refine LeO.ite ?_ ?_)
   | (with_reducible refine LeO.bind ?_ (fun _ => ?_))
   | exact ih0 _ _ _
   | exact ih1 _ _ _ _ _
   | exact LeO.none _
   | refine LeO.ite ?_ ?_
   | refine LeO.bind ?_ (fun _ => ?_)
  ·
   intro y0 y1 y2 y3 y4
   unfold zas.l1
   repeat' first
   | (with_reducible exact ih0 _ _ _)
   | (with_reducible exact ih1 _ _ _ _ _)
   | (with_reducible exact LeO.refl _)
   | (with_reducible exact LeO.none _)
   | (with_reducible refine LeO.ite ?_ ?_)
   | (with_reducible refine LeO.bind ?_ (fun _ => ?_))
   | exact ih0 _ _ _
   | exact ih1 _ _ _ _ _
   | exact LeO.none _
   | refine LeO.ite ?_ ?_
   | refine LeO.bind ?_ (fun _ => ?_)
theorem zas.mono : ∀ a0 a1 k, LeO (zas.f k a0 a1) (zas.f (k + 1) a0 a1) := by
 intro a0 a1 k
 obtain ⟨ih0, ih1⟩ := zas.zbM k
 unfold zas.f
 repeat' first
   | (with_reducible exact ih0 _ _ _)
   | (with_reducible exact ih1 _ _ _ _ _)
   | (with_reducible exact LeO.refl _)
   | (with_reducible exact LeO.none _)
   | (with_reducible refine LeO.ite ?_ ?_)
   | (with_reducible refine LeO.bind ?_ (fun _ => ?_))
   | exact ih0 _ _ _
   | exact ih1 _ _ _ _ _
   | exact LeO.none _
   | refine LeO.ite ?_ ?_
   | refine LeO.bind ?_ (fun _ => ?_)
theorem zas.calls (k : Nat) (A0 : Option Addr) (c0 : Nat) (l0 : List (S33)) (A1 : Option Addr) (c1 : Nat) (l1 : List (S33)) (r : Bool) (w : World) (hr0 : Kd.C k33 w A0 l0.length l0) (hc0 : l0.length ≤ c0) (hr1 : Kd.C k33 w A1 l1.length l1) (hc1 : l1.length ≤ c1) (h : zas.f k l0 l1 = some r) :
  Calls Try.prog 26 #[.slice A0 l0.length c0, .slice A1 l1.length c1] w fun e w' => e = .returned (.bool r) ∧ za1 w w' := by
 have hu33 := Try.underlying33
 have HR0 := zaa.mk hr0
 have HC0 := zaa.mk hc0
 clear hr0 hc0
 have HR1 := zaa.mk hr1
 have HC1 := zaa.mk hc1
 clear hr1 hc1
 have H : (zas.l0 k l0 l1 0) = some r := h
 clear h
 have H' := zaa.mk H
 clear H
 go_enter Try.func26, Try.ntmps26
 go_wp2
 repeat (go_quiet (fail); try go_wp2)
 go_loopg [5] k (fun kq v5 w' => ∃ (x5_1 : Int), v5 = .int .i64 x5_1 ∧ zaa (zas.l0 kq l0 l1 x5_1 = some r) ∧ zaa (kq ≤ k) ∧ za1 w w')
 case atStart => exact ⟨(0), (by first | rfl | (simp; done) | (simp [*]; done)), H', ⟨Nat.le_refl _⟩, by repeat (first | exact za1.refl _ | apply za1.step)⟩
 case round =>
  clear H'
  try clear c1
  try clear c2
  try clear p2
  obtain ⟨x5_1, rfl, HA, HK1, ⟨m1, rfl⟩⟩ := hrel
  cases gk with
  | zero => exact absurd HA.out (by simp [zas.l0])
  | succ k1 =>
   have H := HA.out
   clear HA
   simp only [zas.l0] at H
   by_cases c3 : x5_1 < (l0.length : Int)
   ·
    rw [if_pos c3] at H
    have c3b0 : decide (x5_1 < (l0.length : Int)) = true := decide_eq_true c3
    clear c3
    have H' := zaa.mk H
    clear H
    go_wp2
    repeat (go_quiet (fail); try go_wp2)
    go_loopg [6, 7] k1 (fun kq v6 v7 w' => ∃ (x6_2 : Bool) (x7_2 : Int), v6 = .bool x6_2 ∧ v7 = .int .i64 x7_2 ∧ zaa (zas.l1 kq l0 l1 x5_1 x6_2 x7_2 = some r) ∧ zaa (kq ≤ k1) ∧ za1 w w')
    case atStart => exact ⟨(false), (0), (by first | rfl | (simp; done) | (simp [*]; done)), (by first | rfl | (simp; done) | (simp [*]; done)), H', ⟨Nat.le_refl _⟩, by repeat (first | exact za1.refl _ | apply za1.step)⟩
    case round =>
     clear H'
     try clear c1
     try clear c2
     try clear p2
     try clear c3
     try clear c3b0
     try clear p2
     obtain ⟨x6_2, x7_2, rfl, rfl, HA, HK2, ⟨m2, rfl⟩⟩ := hrel
     cases gk with
     | zero => exact absurd HA.out (by simp [zas.l1])
     | succ k2 =>
      have H := HA.out
      clear HA
      simp only [zas.l1] at H
      by_cases c4 : x7_2 < (l1.length : Int)
      ·
       rw [if_pos c4] at H
       have c4b0 : decide (x7_2 < (l1.length : Int)) = true := decide_eq_true c4
       clear c4
       by_cases c5 : x6_2 = true
       ·
        subst c5
        have H1 : (zas.l1 k2 l0 l1 x5_1 true (wrap64 (x7_2 + 1))) = some r := by rw [if_pos rfl] at H; exact H
        clear H
        have H := H1
        clear H1
        have H' := zaa.mk H
        clear H
        go_wp2
        repeat (go_quiet (fail); try go_wp2)
        go_roundg k2
        case measure => have := HK1.out; have := HK2.out; omega
        case rel => exact ⟨(true), (wrap64 (x7_2 + 1)), (by first | rfl | (simp; done) | (simp [*]; done)), (by first | rfl | (simp; done) | (simp [*]; done)), H', ⟨by have := HK1.out; have := HK2.out; omega⟩, by repeat (first | exact za1.refl _ | apply za1.step)⟩
       ·
        replace c5 := Bool.eq_false_iff.mpr c5
        subst c5
        have H1 : (if 0 ≤ x5_1 then (if x5_1 < (l0.length : Int) then (if 0 ≤ x7_2 then (zas.l1 k2 l0 l1 x5_1 ((((zbH l0 x5_1).f0).toList) == (((zbH l1 x7_2).f0).toList) && (((zbH l0 x5_1).f1) == ((zbH l1 x7_2).f1))) (wrap64 (x7_2 + 1))) else (none)) else (none)) else (none)) = some r := by rw [if_neg (show ¬ (false = true) by decide)] at H; exact H
        clear H
        have H := H1
        clear H1
        by_cases c6 : 0 ≤ x5_1
        ·
         rw [if_pos c6] at H
         have c6b0 : decide (0 ≤ x5_1) = true := decide_eq_true c6
         clear c6
         by_cases c7 : x5_1 < (l0.length : Int)
         ·
          rw [if_pos c7] at H
          have c7b0 : decide (x5_1 < (l0.length : Int)) = true := decide_eq_true c7
          clear c7
          by_cases c8 : 0 ≤ x7_2
          ·
           rw [if_pos c8] at H
           have c8b0 : decide (0 ≤ x7_2) = true := decide_eq_true c8
           clear c8
           have H' := zaa.mk H
           clear H
           have p289 : 0 ≤ (x5_1 : Int) := of_decide_eq_true (by first | (with_reducible assumption) | assumption)
           have q289 : x5_1 < (l0.length : Int) := of_decide_eq_true (by first | (with_reducible assumption) | assumption)
           obtain ⟨ad289, e289, hx289_0, hx289_1⟩ := zdN HR0.out x5_1 p289 q289
           cases e289
           replace p289 := eq_true p289
           replace q289 := eq_true q289
           have p290 : 0 ≤ (x7_2 : Int) := of_decide_eq_true (by first | (with_reducible assumption) | assumption)
           have q290 : x7_2 < (l1.length : Int) := of_decide_eq_true (by first | (with_reducible assumption) | assumption)
           obtain ⟨ad290, e290, hx290_0, hx290_1⟩ := zdN HR1.out x7_2 p290 q290
           cases e290
           replace p290 := eq_true p290
           replace q290 := eq_true q290
           go_wp2
           repeat (go_quiet (fail); try go_wp2)
           go_roundg k2
           case measure => have := HK1.out; have := HK2.out; omega
           case rel => exact ⟨(((((zbH l0 x5_1).f0).toList) == (((zbH l1 x7_2).f0).toList) && (((zbH l0 x5_1).f1) == ((zbH l1 x7_2).f1)))), (wrap64 (x7_2 + 1)), (by first | rfl | (simp; done) | (simp [*]; done)), (by first | rfl | (simp; done) | (simp [*]; done)), H', ⟨by have := HK1.out; have := HK2.out; omega⟩, by repeat (first | exact za1.refl _ | apply za1.step)⟩
          ·
           rw [if_neg c8] at H
           exact absurd H s9
         ·
          rw [if_neg c7] at H
          exact absurd H s9
        ·
         rw [if_neg c6] at H
         exact absurd H s9
      ·
       rw [if_neg c4] at H
       have c4b0 : decide (x7_2 < (l1.length : Int)) = false := decide_eq_false c4
       clear c4
       by_cases c9 : x6_2 = true
       ·
        subst c9
        have H1 : (zas.l0 k2 l0 l1 (wrap64 (x5_1 + 1))) = some r := by rw [if_pos rfl] at H; exact H
        clear H
        have H := H1
        clear H1
        have H' := zaa.mk H
        clear H
        go_wp2
        repeat (go_quiet (fail); try go_wp2)
        go_roundg k2
        case measure => have := HK1.out; have := HK2.out; omega
        case rel => exact ⟨(wrap64 (x5_1 + 1)), (by first | rfl | (simp; done) | (simp [*]; done)), H', ⟨by have := HK1.out; have := HK2.out; omega⟩, by repeat (first | exact za1.refl _ | apply za1.step)⟩
       ·
        replace c9 := Bool.eq_false_iff.mpr c9
        subst c9
        have H1 : (some false) = some r := by rw [if_neg (show ¬ (false = true) by decide)] at H; exact H
        clear H
        have H := H1
        clear H1
        obtain rfl := Option.some.inj H
        go_wp2
        repeat (go_quiet (fail); try go_wp2)
        go_ret
        exact ⟨by first | rfl | (simp; done) | (simp [*]; done), by repeat (first | exact za1.refl _ | apply za1.step)⟩
   ·
    rw [if_neg c3] at H
    have c3b0 : decide (x5_1 < (l0.length : Int)) = false := decide_eq_false c3
    clear c3
    obtain rfl := Option.some.inj H
    go_wp2
    repeat (go_quiet (fail); try go_wp2)
    go_ret
    exact ⟨by first | rfl | (simp; done) | (simp [*]; done), by repeat (first | exact za1.refl _ | apply za1.step)⟩
end Go.Proofs.Ytinkbljjpafadaa.PAll
end

section
namespace Go.Proofs.Ytinkbljjpafadaa.Pure
open Go.RowKit Go.Proofs.Ytinkbljjpafadaa.PAll Go.Proofs.YtinkbljjpafadaaW.PrintWords Go.Proofs.YtinkbljjpafadaaW.PrintLast Go.Proofs.YtinkbljjpafadaaHChain Go.Proofs.YtinkbljjpafadaaEv Go.Proofs.YtinkbljjpafadaaTab Go.Proofs.YtinkbljjpafadaaWords
theorem zk9 (x y : Mb) : eqM x y = true ↔ x = y := by
 obtain ⟨a, b⟩ := x
 obtain ⟨c, d⟩ := y
 simp [eqM, toL]
theorem zfx (l : List Mb) (m : Mb) : hasM l m = true ↔ m ∈ l := by
 simp only [hasM, List.any_eq_true, zk9]
 exact ⟨fun ⟨x, h1, h2⟩ => h2 ▸ h1, fun h => ⟨m, h, rfl⟩⟩
def hasC (l : List Lr) (c : ByteArray) : Prop := ∃ x ∈ l, x.f1 = c
noncomputable def shw (t : List Cl) (s : ByteArray) (l : List Lr) : List Mb := zcJ (mem t s) ((cls [s] l).map (mem t))
theorem ziT (ms : List Mb) (ls : List (List Mb)) (m : Mb) : m ∈ zcJ ms ls ↔ m ∈ ms ∧ ∀ l ∈ ls, m ∈ l := by
 unfold zcJ
 rw [List.mem_filter]
 refine and_congr_right fun _ => ?_
 rw [Bool.not_eq_true', List.any_eq_false]
 exact forall₂_congr fun l hl => by rw [← zfx]; simp
theorem zlr (t : List Cl) (s : ByteArray) (l : List Lr) (m : Mb) : m ∈ shw t s l ↔ m ∈ mem t s ∧ ∀ c, hasC l c → m ∈ mem t c := by
 unfold shw
 rw [ziT]
 refine and_congr_right fun h => ?_
 simp only [List.mem_map, forall_exists_index, and_imp, forall_apply_eq_imp_iff₂, zi9, List.mem_singleton]
 exact ⟨fun h1 c hc => h1 c (.inr hc), fun h1 c hc => hc.elim (fun e => e ▸ h) (fun hc => h1 c hc)⟩
theorem zkS {t : List Cl} (ht : TB t) (s : ByteArray) (l : List Lr) : (shw t s l).length ≤ 140 := Nat.le_trans (zfl _ _) (zf1 ht s)
theorem zhs {t : List Cl} (ht : TB t) : ∀ cs : List ByteArray, Evn (fun k => zaG.lists k t cs) (cs.map (mem t))
 | [] => Evn.ret _
 | c :: r => Evn.bind (h := fun k x => (zaG.lists k t r).bind fun xs => some (x :: xs)) (zdW ht c) (Evn.bind (h := fun k xs => some (mem t c :: xs)) (zhs ht r) (Evn.ret _))
theorem zkl {t : List Cl} (ht : TB t) (b c : Int) (s : ByteArray) (l : List Lr) (hl : l.length < 1000000) : Evn (fun k => zaG.f k t 7 b c s l) (shw t s l) := by
 refine Evn.pos rfl (Evn.bind (h := fun k cs => (zaG.lists k t cs).bind fun ls => (zay.f k t s).bind fun ms => if zaG.fits cs ls ms = true then some (zcJ ms ls) else none) (zie s l o9) (Evn.bind (h := fun k ls => (zay.f k t s).bind fun ms => if zaG.fits (cls [s] l) ls ms = true then some (zcJ ms ls) else none) (zhs ht _) (Evn.bind (h := fun k ms => if zaG.fits (cls [s] l) ((cls [s] l).map (mem t)) ms = true then some (zcJ ms ((cls [s] l).map (mem t))) else none) (zdW ht s) (Evn.pos ?_ (Evn.ret _)))))
 unfold zaG.fits
 simp only [Bool.and_eq_true, decide_eq_true_eq, List.all_eq_true, List.mem_map, forall_exists_index, and_imp, forall_apply_eq_imp_iff₂]
 refine ⟨⟨?_, fun x _ => by have := zf1 ht x; omega⟩, by have := zf1 ht s; omega⟩
 have := zg8 l [s]
 simp only [List.length_singleton] at this; omega
theorem zjX {t : List Cl} {a : Int} (ha : a ≠ 7) (k : Nat) (b c : Int) (s : ByteArray) (l : List Lr) : zaG.f k t a b c s l = some [] := by
 unfold zaG.f
 rw [if_neg ha]
def kd (a : ByteArray) : Int := if (tag2 a).2 = 0 then 1 else if a.toList = [63] then 2 else if word great a = true then 3 else 0
theorem zjo (a : ByteArray) (h : a.size ≤ 9223372036854775807) : zb3.f a = some (kd a) := by
 unfold zb3.f zb9.f zck.f kd
 show (if ((tag2 a).2 == 0) = true then some 1 else if a.toList = [63] then some 2 else (zbP.f a).bind fun t155 => if t155 = true then some 3 else some 0) = _
 by_cases h1 : (tag2 a).2 = 0
 ·
  rw [if_pos (by simpa using h1), if_pos h1]
 ·
  rw [if_neg (by simpa using h1), if_neg h1]
  by_cases h2 : a.toList = [63]
  ·
   rw [if_pos h2, if_pos h2]
  ·
   rw [if_neg h2, if_neg h2]
   unfold zbP.f
   rw [if_pos h]
   show (if word great a = true then some (3 : Int) else some 0) = _
   by_cases h3 : word great a = true
   ·
    rw [if_pos h3, if_pos h3]
   ·
    rw [if_neg h3, if_neg h3]
noncomputable def bhd (merged : Bool) (l : List Lr) (x : Lr) : List Lr := if merged = true then norm fL (l ++ [x]) else l ++ [x]
theorem zj2 (l : List Lr) : ∀ x ∈ norm fL l, x ∈ l := by
 obtain ⟨P, h1, h2, _⟩ := zcS fL l
 rw [h1]
 intro x hx
 obtain ⟨i, hi, e⟩ := List.mem_filterMap.1 hx
 exact List.mem_of_getElem? e
theorem zf9 (l : List Lr) (c : ByteArray) : hasC (norm fL l) c ↔ hasC l c := by
 constructor
 ·
  rintro ⟨x, hx, e⟩
  exact ⟨x, zj2 l x hx, e⟩
 ·
  rintro ⟨x, hx, e⟩
  obtain ⟨j, hj, ej⟩ := List.getElem_of_mem hx
  obtain ⟨P, h1, h2, h3⟩ := zcS fL l
  obtain ⟨i, hij, hi, hmin⟩ := least (p := fun i => ∃ h : i < l.length, fL l[i] = fL x) (n := j) ⟨hj, by rw [ej]⟩
  obtain ⟨hil, hie⟩ := hi
  have hk : Go.Proofs.YtinkbljjpafadaaHChain.Kept (fun k => (l[k]?).map fL) (· < l.length) i := zdj hil fun k hk hki he => hmin k hki ⟨hk, by
   simp only [List.getElem?_eq_getElem hk, List.getElem?_eq_getElem hil, Option.map_some, Option.some.injEq] at he
   rw [he, hie]⟩
  refine ⟨l[i], ?_, ?_⟩
  ·
   rw [h1]
   exact List.mem_filterMap.2 ⟨i, (h3.2 i).2 hk, List.getElem?_eq_getElem hil⟩
  ·
   rw [← e]
   exact congrArg Prod.snd hie
theorem zhN (merged : Bool) (l : List Lr) (x : Lr) (c : ByteArray) : hasC (bhd merged l x) c ↔ hasC l c ∨ x.f1 = c := by
 have h : hasC (l ++ [x]) c ↔ hasC l c ∨ x.f1 = c := by
  constructor
  ·
   rintro ⟨y, hy, e⟩
   rcases List.mem_append.1 hy with hy | hy
   ·
    exact .inl ⟨y, hy, e⟩
   ·
    rw [List.mem_singleton.1 hy] at e; exact .inr e
  ·
   rintro (⟨y, hy, e⟩ | e)
   ·
    exact ⟨y, List.mem_append_left _ hy, e⟩
   ·
    exact ⟨x, by simp, e⟩
 unfold bhd
 split
 ·
  rw [zf9, h]
 ·
  exact h
theorem ziy (merged : Bool) (l : List Lr) (x : Lr) : (bhd merged l x).length ≤ l.length + 1 := by
 unfold bhd
 split
 ·
  have := zep fL (l ++ [x]); simpa using this
 ·
  simp
theorem zgq (t : List Cl) (merged : Bool) (lab a b c : Int) (s : ByteArray) (l : List Lr) (out : Bool) (cl : ByteArray) (hl : l.length < 1000000) : zaM.f t merged lab a b c s l out cl = some (a, b, c, s, bhd merged l ⟨out, cl, lab⟩) := by
 unfold zaM.f bhd
 cases merged with
 | true =>
  rw [if_pos rfl, if_pos rfl, zlT l ⟨out, cl, lab⟩ o9]
  rfl
 | false =>
  rw [if_neg s9, if_neg s9]
  unfold zaZ.f
  rw [if_pos o9]
  show (if l.length + 1 < 4398046511104 then some _ else none) = _
  rw [if_pos o9]
noncomputable def lvC (merged : Bool) (l : List Lr) (s : ByteArray) (lab a : Int) : List Lr := if kd s = 3 ∧ a = 7 then bhd merged l ⟨false, s, lab⟩ else l
theorem zem (l : List Lr) (hl : l.length < 1000000) : zaZ.f l = some l := by
 unfold zaZ.f
 rw [if_pos o9]
theorem zjK (t : List Cl) (merged : Bool) (lab a b c : Int) (s : ByteArray) (l : List Lr) (ty : ByteArray) (hl : l.length < 1000000) (hty : ty.size ≤ 9223372036854775807) : Evn (fun k => zav.f k t merged lab a b c s l ty) (a, b, c, s, lvC merged l ty lab a) := by
 refine Evn.cbind (zjo ty hty) ?_
 unfold lvC
 by_cases h3 : kd ty = 3
 ·
  by_cases h7 : a = 7
  ·
   refine Evn.pos h3 (Evn.succ (Evn.neg (by simp [h7]) (Evn.cbind (zgq t merged lab a b c s l false ty hl) ((Evn.ret _).val ?_))))
   rw [if_pos ⟨h3, h7⟩]
  ·
   refine Evn.pos h3 (Evn.succ (Evn.pos (by simpa using h7) (Evn.cbind (zem l hl) ((Evn.ret _).val ?_))))
   rw [if_neg (fun h => h7 h.2)]
 ·
  refine Evn.neg h3 (Evn.succ (Evn.congr (g' := fun _ => (zaZ.f l).bind fun t194 => some (a, b, c, s, t194)) (fun k => rfl) (Evn.cbind (zem l hl) ((Evn.ret _).val ?_))))
  rw [if_neg (fun h => h3 h.1)]
noncomputable def entC (t : List Cl) (merged : Bool) (lab a : Int) (s : ByteArray) (l : List Lr) (ty : ByteArray) : Option (List Lr) :=
 if kd ty = 2 then some l else if kd ty = 1 then (if a = (tag2 ty).1 then some l else none)
 else if kd ty = 3 then (if a = 6 then some l else if a = 7 then (if ((mem t ty).any fun x => !hasM (shw t s l) x) = true then none else some (bhd merged l ⟨true, ty, lab⟩)) else none) else none
theorem zlG {t : List Cl} (ht : TB t) (merged : Bool) (lab a b c : Int) (s : ByteArray) (l : List Lr) (ty : ByteArray) (hl : l.length < 1000000) (hty : ty.size ≤ 9223372036854775807) :
  Evn (fun k => zaI.ent k t a b c s l ty lab merged) ((entC t merged lab a s l ty).map fun l' => (a, b, c, s, l')) := by
 refine Evn.cbind (show zck.f ty = some (tag2 ty) from rfl) (Evn.cbind (zjo ty hty) (Evn.cbind (zem l hl) ?_))
 unfold entC
 by_cases h2 : kd ty = 2
 ·
  refine Evn.pos h2 ((Evn.ret _).val ?_)
  rw [if_pos h2]; rfl
 refine Evn.neg h2 ?_
 rw [if_neg h2]
 by_cases h1 : kd ty = 1
 ·
  refine Evn.pos h1 ?_
  rw [if_pos h1]
  by_cases ha : a = (tag2 ty).1
  ·
   refine Evn.pos ha ((Evn.ret _).val ?_)
   rw [if_pos ha]; rfl
  ·
   refine Evn.neg ha ((Evn.ret _).val ?_)
   rw [if_neg ha]; rfl
 refine Evn.neg h1 ?_
 rw [if_neg h1]
 by_cases h3 : kd ty = 3
 ·
  refine Evn.pos h3 ?_
  rw [if_pos h3]
  by_cases h6 : a = 6
  ·
   refine Evn.pos h6 ((Evn.ret _).val ?_)
   rw [if_pos h6]; rfl
  refine Evn.neg h6 ?_
  rw [if_neg h6]
  by_cases h7 : a = 7
  ·
   subst h7
   rw [if_pos rfl]
   refine Evn.bind (zkl ht b c s l hl) (Evn.pos rfl (Evn.bind (zdW ht ty) (Evn.pos ⟨by have := zkS ht s l; omega, by have := zf1 ht ty; omega⟩ ?_)))
   by_cases hm : ((mem t ty).any fun x => !hasM (shw t s l) x) = true
   ·
    refine Evn.pos hm ((Evn.ret _).val ?_)
    rw [if_pos hm]; rfl
   ·
    refine Evn.neg hm (Evn.cbind (zgq t merged lab 7 b c s l true ty hl) ((Evn.ret _).val ?_))
    rw [if_neg hm]; rfl
  ·
   rw [if_neg h7]
   exact Evn.bind (Evn.congr (fun k => zjX h7 k b c s l) (Evn.ret _)) (Evn.neg h7 (Evn.ret _))
 ·
  refine Evn.neg h3 ((Evn.ret _).val ?_)
  rw [if_neg h3]; rfl
abbrev Vr := S58
abbrev Sg := S61
theorem rdC (l : List Cl) (i : Nat) (h : i < l.length) : zar l (i : Int) = l[i] := by
 unfold zar
 rw [Int.toNat_natCast, List.getD_eq_getElem?_getD, List.getElem?_eq_getElem h]; rfl
theorem zit (l : List Vr) (hl : l.length ≤ 1000) : ∀ (d i : Nat), d = l.length - i → i ≤ l.length → (∀ j, j < i → ∀ h : j < l.length, l[j].f1.size ≤ 30) →
  ∃ b, Evn (fun k => zam.l0 k l (i : Int)) b ∧ (b = false → ∀ v ∈ l, v.f1.size ≤ 30) := by
 intro d
 induction d with
 | zero =>
  intro i hd hi hb
  refine ⟨false, Evn.succ (Evn.neg o9 (Evn.ret _)), fun _ x hx => ?_⟩
  obtain ⟨j, hj, rfl⟩ := List.getElem_of_mem hx
  exact hb j o9 hj
 | succ d ih =>
  intro i hd hi hb
  have h : i < l.length := by omega
  by_cases h0 : ((l[i].f0.size : Nat) : Int) > 30
  ·
   exact ⟨true, Evn.succ (Evn.pos o9 (Evn.pos o9 (Evn.pos (by rw [rdV l i h]; exact h0) (Evn.ret _)))), fun h => by cases h⟩
  by_cases h1 : ((l[i].f1.size : Nat) : Int) > 30
  ·
   exact ⟨true, Evn.succ (Evn.pos o9 (Evn.pos o9 (Evn.neg (by rw [rdV l i h]; exact h0) (Evn.pos (by rw [rdV l i h]; exact h1) (Evn.ret _))))), fun h => by cases h⟩
  obtain ⟨b, h3, h4⟩ := ih (i + 1) o9 o9 fun j hj hjl => by
   rcases Nat.lt_or_ge j i with h3 | h3
   ·
    exact hb j h3 hjl
   ·
    obtain rfl : j = i := by omega
    omega
  refine ⟨b, Evn.succ (Evn.pos o9 (Evn.pos o9 (Evn.neg (by rw [rdV l i h]; exact h0) (Evn.neg (by rw [rdV l i h]; exact h1) ?_)))), h4⟩
  rw [w1 h o9]; exact h3
theorem zeA (l : List Vr) (hl : l.length ≤ 1000) : ∃ b, Evn (fun k => zam.f k l) b ∧ (b = false → ∀ v ∈ l, v.f1.size ≤ 30) := zit l hl l.length 0 o9 o9 fun j hj => by omega
def okM (m : Sg) : Prop := m.f2.size ≤ 30 ∧ m.f1.length ≤ 10 ∧ ∀ v ∈ m.f1, v.f1.size ≤ 30
def okC (c : Cl) : Prop := c.f2.length ≤ 7 ∧ c.f3.length ≤ 7 ∧ (∀ v ∈ c.f2, v.f1.size ≤ 30) ∧ ∀ m ∈ c.f3, okM m
theorem zlK (t : List Cl) (i : Nat) (b' : Bool) (hn : Evn (fun k => zah.l0 k t (wrap64 ((i : Int) + 1))) b') (n s : ByteArray) (fs : List Vr) (ms : List Sg) (hm : ms.length ≤ 7) : ∀ (d j : Nat), d = ms.length - j → j ≤ ms.length → (∀ q, q < j → ∀ h : q < ms.length, okM ms[q]) →
  ∃ b, Evn (fun k => zah.l1 k t (i : Int) (j : Int) n s fs ms) b ∧ (b = false → b' = false ∧ ∀ m ∈ ms, okM m) := by
 intro d
 induction d with
 | zero =>
  intro j hd hj hb
  refine ⟨b', Evn.succ (Evn.neg o9 hn), fun e => ⟨e, fun x hx => ?_⟩⟩
  obtain ⟨q, hq, rfl⟩ := List.getElem_of_mem hx
  exact hb q o9 hq
 | succ d ih =>
  intro j hd hj hb
  have h : j < ms.length := by omega
  by_cases h0 : ((ms[j].f0.size : Nat) : Int) > 30
  ·
   exact ⟨true, Evn.succ (Evn.pos o9 (Evn.pos o9 (Evn.pos (by rw [rdS ms j h]; exact h0) (Evn.ret _)))), fun h => by cases h⟩
  by_cases h1 : ((ms[j].f2.size : Nat) : Int) > 30
  ·
   exact ⟨true, Evn.succ (Evn.pos o9 (Evn.pos o9 (Evn.neg (by rw [rdS ms j h]; exact h0) (Evn.pos (by rw [rdS ms j h]; exact h1) (Evn.ret _))))), fun h => by cases h⟩
  by_cases h2 : ((ms[j].f1.length : Nat) : Int) > 10
  ·
   exact ⟨true, Evn.succ (Evn.pos o9 (Evn.pos o9 (Evn.neg (by rw [rdS ms j h]; exact h0) (Evn.neg (by rw [rdS ms j h]; exact h1) (Evn.pos (by rw [rdS ms j h]; exact h2) (Evn.ret _)))))), fun h => by cases h⟩
  obtain ⟨v, h3, h4⟩ := zeA ms[j].f1 o9
  rw [← rdS ms j h] at h3
  cases v with
  | true => exact ⟨true, Evn.succ (Evn.pos o9 (Evn.pos o9 (Evn.neg (by rw [rdS ms j h]; exact h0) (Evn.neg (by rw [rdS ms j h]; exact h1) (Evn.neg (by rw [rdS ms j h]; exact h2) (Evn.bind h3 (Evn.pos rfl (Evn.ret _)))))))), fun h => by cases h⟩
  | false =>
   obtain ⟨b, h5, h6⟩ := ih (j + 1) o9 o9 fun q hq hql => by
    rcases Nat.lt_or_ge q j with h3 | h3
    ·
     exact hb q h3 hql
    ·
     obtain rfl : q = j := by omega
     exact ⟨by omega, by omega, h4 rfl⟩
   refine ⟨b, Evn.succ (Evn.pos o9 (Evn.pos o9 (Evn.neg (by rw [rdS ms j h]; exact h0) (Evn.neg (by rw [rdS ms j h]; exact h1) (Evn.neg (by rw [rdS ms j h]; exact h2) (Evn.bind h3 (Evn.neg s9 ?_))))))), h6⟩
   rw [w1 h o9]; exact h5
theorem zlb (t : List Cl) : ∀ (d i : Nat), d = 10 - i → i ≤ 10 → i ≤ t.length →
  ∃ b, Evn (fun k => zah.l0 k t (i : Int)) b ∧ (b = false → t.length ≤ 9 ∧ ∀ j, i ≤ j → ∀ h : j < t.length, okC t[j]) := by
 intro d
 induction d with
 | zero =>
  intro i hd hi hil
  obtain rfl : i = 10 := by omega
  by_cases h : (10 : Int) < (t.length : Int)
  ·
   refine ⟨true, Evn.succ (Evn.pos h (Evn.succ (Evn.congr (g' := fun _ => some (decide ((t.length : Int) > 9))) (fun k => rfl) ((Evn.ret _).val ?_)))), fun h => by cases h⟩
   simp; omega
  ·
   refine ⟨true, Evn.succ (Evn.neg h (Evn.succ (Evn.congr (g' := fun _ => some (decide ((t.length : Int) > 9))) (fun k => rfl) ((Evn.ret _).val ?_)))), fun h => by cases h⟩
   simp; omega
 | succ d ih =>
  intro i hd hi hil
  by_cases h : i < t.length
  ·
   have hs : ∀ {b : Bool}, Evn (fun k => if (0 : Int) ≤ (i : Int) then (if (i : Int) < (t.length : Int) then (if (((zar t (i : Int)).f0).size : Int) > 30 then (zah.j2 k t (i : Int) true ((zar t (i : Int)).f0) ((zar t (i : Int)).f1) ((zar t (i : Int)).f2) ((zar t (i : Int)).f3)) else (if (((zar t (i : Int)).f1).size : Int) > 30 then (zah.j2 k t (i : Int) true ((zar t (i : Int)).f0) ((zar t (i : Int)).f1) ((zar t (i : Int)).f2) ((zar t (i : Int)).f3)) else (if (((zar t (i : Int)).f2).length : Int) > 7 then (zah.j2 k t (i : Int) true ((zar t (i : Int)).f0) ((zar t (i : Int)).f1) ((zar t (i : Int)).f2) ((zar t (i : Int)).f3)) else (if (((zar t (i : Int)).f3).length : Int) > 7 then (zah.j2 k t (i : Int) true ((zar t (i : Int)).f0) ((zar t (i : Int)).f1) ((zar t (i : Int)).f2) ((zar t (i : Int)).f3)) else ((zam.f k ((zar t (i : Int)).f2)).bind fun t265 => (zah.j2 k t (i : Int) t265 ((zar t (i : Int)).f0) ((zar t (i : Int)).f1) ((zar t (i : Int)).f2) ((zar t (i : Int)).f3))))))) else (none)) else (none)) b →
     Evn (fun k => zah.l0 k t (i : Int)) b := fun hh => Evn.succ (Evn.pos o9 (Evn.succ (Evn.pos (by simp; omega) hh)))
   have hj : ∀ (n s : ByteArray) (fs : List Vr) (ms : List Sg), Evn (fun k => zah.j2 k t (i : Int) true n s fs ms) true := fun n s fs ms => Evn.succ (Evn.congr (g' := fun _ => some true) (fun k => rfl) (Evn.ret _))
   rw [rdC t i h] at hs
   by_cases h0 : ((t[i].f0.size : Nat) : Int) > 30
   ·
    exact ⟨true, hs (Evn.pos o9 (Evn.pos o9 (Evn.pos h0 (hj _ _ _ _)))), fun h => by cases h⟩
   by_cases h1 : ((t[i].f1.size : Nat) : Int) > 30
   ·
    exact ⟨true, hs (Evn.pos o9 (Evn.pos o9 (Evn.neg h0 (Evn.pos h1 (hj _ _ _ _))))), fun h => by cases h⟩
   by_cases h2 : ((t[i].f2.length : Nat) : Int) > 7
   ·
    exact ⟨true, hs (Evn.pos o9 (Evn.pos o9 (Evn.neg h0 (Evn.neg h1 (Evn.pos h2 (hj _ _ _ _)))))), fun h => by cases h⟩
   by_cases h3 : ((t[i].f3.length : Nat) : Int) > 7
   ·
    exact ⟨true, hs (Evn.pos o9 (Evn.pos o9 (Evn.neg h0 (Evn.neg h1 (Evn.neg h2 (Evn.pos h3 (hj _ _ _ _))))))), fun h => by cases h⟩
   obtain ⟨v, h4, h5⟩ := zeA t[i].f2 o9
   cases v with
   | true => exact ⟨true, hs (Evn.pos o9 (Evn.pos o9 (Evn.neg h0 (Evn.neg h1 (Evn.neg h2 (Evn.neg h3 (Evn.bind h4 (hj _ _ _ _)))))))), fun h => by cases h⟩
   | false =>
    obtain ⟨b', h6, h7⟩ := ih (i + 1) o9 o9 o9
    rw [← w1 (show i < 10 by omega) o9] at h6
    obtain ⟨b, h8, h9⟩ := zlK t i b' h6 t[i].f0 t[i].f1 t[i].f2 t[i].f3 o9 t[i].f3.length 0 o9 o9 (fun q hq => by omega)
    refine ⟨b, hs (Evn.pos o9 (Evn.pos o9 (Evn.neg h0 (Evn.neg h1 (Evn.neg h2 (Evn.neg h3 (Evn.bind h4 (Evn.succ (Evn.congr (fun k => rfl) h8))))))))), fun e => ?_⟩
    obtain ⟨e1, e2⟩ := h9 e
    obtain ⟨e3, e4⟩ := h7 e1
    refine ⟨e3, fun j hj hjl => ?_⟩
    rcases Nat.eq_or_lt_of_le hj with rfl | hj
    ·
     exact ⟨by omega, by omega, h5 rfl, e2⟩
    ·
     exact e4 j hj hjl
  ·
   refine ⟨decide ((t.length : Int) > 9), Evn.succ (Evn.neg o9 (Evn.succ (Evn.congr (fun k => rfl) (Evn.ret _)))), fun e => ⟨by have := of_decide_eq_false e; omega, fun j hj hjl => by omega⟩⟩
structure TS (t : List Cl) : Prop extends TB t where
 vs : ∀ c ∈ t, ∀ v ∈ c.f2, v.f1.size ≤ 30
 rs : ∀ c ∈ t, ∀ m ∈ c.f3, m.f2.size ≤ 30
 pv : ∀ c ∈ t, ∀ m ∈ c.f3, ∀ v ∈ m.f1, v.f1.size ≤ 30
theorem zku (t : List Cl) : ∃ b, Evn (fun k => zah.f k t) b ∧ (b = false → TS t) := by
 obtain ⟨b, h1, h2⟩ := zlb t 10 0 rfl o9 o9
 refine ⟨b, h1, fun e => ?_⟩
 obtain ⟨h3, h4⟩ := h2 e
 have h5 : ∀ c ∈ t, okC c := fun c hc => by
  obtain ⟨j, hj, rfl⟩ := List.getElem_of_mem hc
  exact h4 j o9 hj
 exact { len := h3, fs := fun c hc => (h5 c hc).1, ms := fun c hc => (h5 c hc).2.1, ps := fun c hc m hm => ((h5 c hc).2.2.2 m hm).2.1, vs := fun c hc => (h5 c hc).2.2.1, rs := fun c hc m hm => ((h5 c hc).2.2.2 m hm).1, pv := fun c hc m hm => ((h5 c hc).2.2.2 m hm).2.2 }
theorem zkZ (a b c : Int) (s : ByteArray) (l : List Lr) : ∀ (d i : Nat), d = 61 - i → i ≤ 61 → i ≤ l.length →
  ∃ r, Evn (fun k => zak.l0 k (i : Int) a b c s l) r ∧ (r = false → l.length ≤ 60 ∧ s.size ≤ 60) := by
 have fin : ∀ i : Int, ∃ r, Evn (fun k => zak.j1 k i false a b c s l) r ∧ (r = false → l.length ≤ 60 ∧ s.size ≤ 60) := fun i => by
  by_cases h : (l.length : Int) > 60
  ·
   exact ⟨true, Evn.succ (Evn.congr (g' := fun _ => if (l.length : Int) > 60 then some true else some (decide ((s.size : Int) > 60))) (fun k => rfl) (Evn.pos h (Evn.ret _))), fun h => by cases h⟩
  ·
   refine ⟨decide ((s.size : Int) > 60), Evn.succ (Evn.congr (g' := fun _ => if (l.length : Int) > 60 then some true else some (decide ((s.size : Int) > 60))) (fun k => rfl) (Evn.neg h (Evn.ret _))), fun e => ?_⟩
   have := of_decide_eq_false e; omega
 intro d
 induction d with
 | zero =>
  intro i hd hi hil
  obtain rfl : i = 61 := by omega
  obtain ⟨r, h1, h2⟩ := fin (61 : Nat)
  refine ⟨r, Evn.succ ?_, h2⟩
  by_cases h : ((61 : Nat) : Int) < (l.length : Int)
  ·
   exact Evn.pos h h1
  ·
   exact Evn.neg h h1
 | succ d ih =>
  intro i hd hi hil
  by_cases h : i < l.length
  ·
   by_cases h0 : ((l[i].f1.size : Nat) : Int) > 60
   ·
    exact ⟨true, Evn.succ (Evn.pos o9 (Evn.succ (Evn.pos (by simp; omega) (Evn.pos o9 (Evn.pos o9 (Evn.pos (by rw [rdT l i h]; exact h0) (Evn.ret _))))))), fun h => by cases h⟩
   ·
    obtain ⟨r, h1, h2⟩ := ih (i + 1) o9 o9 o9
    refine ⟨r, Evn.succ (Evn.pos o9 (Evn.succ (Evn.pos (by simp; omega) (Evn.pos o9 (Evn.pos o9 (Evn.neg (by rw [rdT l i h]; exact h0) ?_)))))), h2⟩
    rw [w1 (show i < 61 by omega) o9]; exact h1
  ·
   obtain ⟨r, h1, h2⟩ := fin i
   exact ⟨r, Evn.succ (Evn.neg o9 h1), h2⟩
theorem zhA (a b c : Int) (s : ByteArray) (l : List Lr) : ∃ r, Evn (fun k => zak.f k a b c s l) r ∧ (r = false → l.length ≤ 60 ∧ s.size ≤ 60) := zkZ a b c s l 61 0 rfl o9 o9
theorem zfJ (a b c : Int) (s : ByteArray) (l : List Lr) (hl : l.length < 1000000) : Evn (fun k => zaj.f k a b c s l a b c s l) true :=
 Evn.pos rfl (Evn.pos rfl (Evn.pos rfl (Evn.pos rfl (Evn.bind (h := fun _ (t : Bool) => some t) (Evn.of (l.length + 1) fun k hk => same l o9 k o9) (Evn.ret _)))))
theorem zkv : Evn zaE.f true := by
 have h : zaE.f 12 = some true := by kernel_rfl
 have key : ∀ k, zaE.f (12 + k) = some true := fun k => by
  induction k with
  | zero => exact h
  | succ k ih => exact zaE.mono (12 + k) true ih
 exact ⟨12, fun k hk => by obtain ⟨j, rfl⟩ : ∃ j, k = 12 + j := ⟨k - 12, by omega⟩; exact key j⟩
theorem zj6 {s : ByteArray} (h : (tag2 s).2 = 0) : s.toList ≠ [63] ∧ word great s = false ∧ (tag2 s).1 ≠ 7 := by
 have h5 : ∃ i, i < 5 ∧ (base i).toList = s.toList := Classical.byContradiction fun hn => by
  rw [zkx (fun j hj e => hn ⟨j, hj, e⟩)] at h
  cases h
 obtain ⟨i, hi, e⟩ := h5
 obtain rfl : base i = s := toL.1 e
 rcases (by omega : i = 0 ∨ i = 1 ∨ i = 2 ∨ i = 3 ∨ i = 4) with rfl | rfl | rfl | rfl | rfl
 ·
  exact ⟨by rw [base0]; simp, by kernel_rfl, by rw [zdT (i := 0) o9 rfl]; decide⟩
 ·
  exact ⟨by rw [base1]; simp, by kernel_rfl, by rw [zdT (i := 1) o9 rfl]; decide⟩
 ·
  exact ⟨by rw [base2]; simp, by kernel_rfl, by rw [zdT (i := 2) o9 rfl]; decide⟩
 ·
  exact ⟨by rw [base3]; simp, by kernel_rfl, by rw [zdT (i := 3) o9 rfl]; decide⟩
 ·
  exact ⟨by rw [base4]; simp, by kernel_rfl, by rw [zdT (i := 4) o9 rfl]; decide⟩
theorem zj8 (s : ByteArray) : (kd s = 1 ∧ (tag2 s).2 = 0) ∨ (kd s = 2 ∧ (tag2 s).2 ≠ 0 ∧ s.toList = [63]) ∨ (kd s = 3 ∧ (tag2 s).2 ≠ 0 ∧ s.toList ≠ [63] ∧ word great s = true) ∨ (kd s = 0 ∧ (tag2 s).2 ≠ 0 ∧ s.toList ≠ [63] ∧ word great s = false) := by
 unfold kd
 by_cases h1 : (tag2 s).2 = 0
 ·
  rw [if_pos h1]; exact .inl ⟨rfl, h1⟩
 rw [if_neg h1]
 by_cases h2 : s.toList = [63]
 ·
  rw [if_pos h2]; exact .inr (.inl ⟨rfl, h1, h2⟩)
 rw [if_neg h2]
 by_cases h3 : word great s = true
 ·
  rw [if_pos h3]; exact .inr (.inr (.inl ⟨rfl, h1, h2, h3⟩))
 ·
  rw [if_neg h3]; exact .inr (.inr (.inr ⟨rfl, h1, h2, by simpa using h3⟩))
theorem zkU (merged : Bool) (l : List Lr) (ty : ByteArray) (lab a : Int) : (lvC merged l ty lab a).length ≤ l.length + 1 := by
 unfold lvC
 split
 ·
  exact ziy _ _ _
 ·
  omega
theorem zje (l m : List Mb) : ((l.any fun x => !hasM m x) = true) ↔ ¬ ∀ x ∈ l, x ∈ m := by
 rw [List.any_eq_true]
 constructor
 ·
  rintro ⟨x, h1, h2⟩ h
  have := (zfx m x).2 (h x h1)
  simp [this] at h2
 ·
  intro h
  obtain ⟨x, hx⟩ := Classical.not_forall.1 h
  obtain ⟨h1, h2⟩ := Classical.not_imp.1 hx
  exact ⟨x, h1, by rw [Bool.not_eq_true', ← Bool.not_eq_true, zfx]; exact h2⟩
end Go.Proofs.Ytinkbljjpafadaa.Pure
end

section
namespace Go.Proofs.YtinkbljjpafadaaHChain
section
variable {A B : Type}
theorem zdt (l : List B) (p : B → Bool) : ∀ P : List Nat, pick l (P.filter fun i => (l[i]?).any p) = (pick l P).filter p
 | [] => rfl
 | i :: r => by
  have ih := zdt l p r
  unfold pick at ih ⊢
  cases h : l[i]? with
  | none => rw [List.filter_cons_of_neg (by simp [h]), List.filterMap_cons_none h]; exact ih
  | some b =>
   rw [List.filterMap_cons_some h]
   by_cases hp : p b = true
   ·
    rw [List.filter_cons_of_pos (by simp [h, hp]), List.filterMap_cons_some h, List.filter_cons_of_pos hp, ih]
   ·
    rw [List.filter_cons_of_neg (by simp [h, hp]), List.filter_cons_of_neg hp, ih]
open Classical in
theorem zjW {P Q : List Nat} {T : Nat → Prop} (hA : Lists P T) (hB : Lists Q T) : P = Q :=
 List.Perm.eq_of_pairwise (fun a b _ _ h1 h2 => by omega) hA.sorted hB.sorted ((List.perm_ext_iff_of_nodup (hA.sorted.imp fun h => Nat.ne_of_lt h) (hB.sorted.imp fun h => Nat.ne_of_lt h)).2 fun i => by rw [hA.mem, hB.mem])
open Classical in
theorem zex (f : B → A) (p : B → Bool) (hp : ∀ x y, f x = f y → p x = p y) (l : List B) : norm f ((norm f l).filter p) = norm f (l.filter p) := by
 obtain ⟨x, hx⟩ : ∃ x : Nat → Option A, x = fun k => (l[k]?).map f := ⟨_, rfl⟩
 have hsame : ∀ i k, i < l.length → k < l.length → x i = x k → (l[i]?).any p = (l[k]?).any p := fun i k hi hk h => by
  rw [hx] at h
  simp only [List.getElem?_eq_getElem hi, List.getElem?_eq_getElem hk, Option.map_some, Option.some.injEq] at h
  simp only [List.getElem?_eq_getElem hi, List.getElem?_eq_getElem hk, Option.any_some]
  exact hp _ _ h
 have h1 : Lists ((List.range l.length).filter fun i => (l[i]?).any p) fun i => i < l.length ∧ (l[i]?).any p = true := (Lists.range l.length).filter _
 obtain ⟨P, e1, e2, e3⟩ := zcS f l
 have h2 : Lists (P.filter fun i => (l[i]?).any p) fun i => Kept (fun k => (l[k]?).map f) (· < l.length) i ∧ (l[i]?).any p = true := e3.filter _
 have a1 : l.filter p = pick l ((List.range l.length).filter fun i => (l[i]?).any p) := by rw [zdt, zdX]
 have a2 : (norm f l).filter p = pick l (P.filter fun i => (l[i]?).any p) := by rw [zdt, ← e1]
 rw [a1, a2, zeu f l h1 (fun i hi => List.mem_range.1 (List.mem_filter.1 hi).1), zeu f l h2 (fun i hi => e2 i (List.mem_filter.1 hi).1)]
 congr 1
 rw [← hx] at h2 ⊢
 have key : ∀ i, Kept x (fun i => Kept x (· < l.length) i ∧ (l[i]?).any p = true) i ↔ Kept x (fun i => i < l.length ∧ (l[i]?).any p = true) i :=
  zgd (N := l.length) (fun k hk => hk.1) (fun k hk => ⟨hk.1.1, hk.2⟩) (fun i hi => by
   obtain ⟨hi0, hi1⟩ := hi
   refine ⟨⟨hi0.1, ?_⟩, hi0.2⟩
   rcases hi1 with ⟨j, hji, hj, q1, q2⟩ | ⟨j, hji, hj, q1, q2⟩
   ·
    exact .inl ⟨j, hji, hj.1, fun k hk hkj e => q1 k ⟨hk, (hsame k j hk hj.1 e).trans hj.2⟩ hkj e, fun k hk h1 h2 e => q2 k ⟨hk, (hsame k i hk hi0.1 e).trans hi0.2⟩ h1 h2 e⟩
   ·
    exact .inr ⟨j, hji, hj.1, fun k hk hkj e => q1 k ⟨hk, (hsame k j hk hj.1 e).trans hj.2⟩ hkj e, fun k hk h1 h2 e => q2 k ⟨hk, (hsame k i hk hi0.1 e).trans hi0.2⟩ h1 h2 e⟩)
 refine zjW (T := fun i => Kept x (fun i => i < l.length ∧ (l[i]?).any p = true) i) ?_ ?_
 ·
  have := h2.filter fun i => decide (Kept x (fun i => Kept x (· < l.length) i ∧ (l[i]?).any p = true) i)
  exact ⟨this.sorted, fun i => by rw [this.mem, decide_eq_true_iff, key i]; exact ⟨fun h => h.2, fun h => ⟨((key i).2 h).1, h⟩⟩⟩
 ·
  have := h1.filter fun i => decide (Kept x (fun i => i < l.length ∧ (l[i]?).any p = true) i)
  exact ⟨this.sorted, fun i => by rw [this.mem, decide_eq_true_iff]; exact ⟨fun h => h.2, fun h => ⟨h.1, h⟩⟩⟩
end
section
variable {A C : Type}
inductive Does (C : Type) where
 | skip : Does C
 | add : C → Does C
 | chk : C → Does C
 | rej : Does C
open Classical in
noncomputable def thru (act : Nat → Does C) (ok : C → (C → Prop) → Prop) : List Nat → (C → Prop) → Option Nat × (C → Prop)
 | [], D => (none, D)
 | i :: r, D => match act i with
  | .skip => thru act ok r D
  | .add c => thru act ok r (fun d => D d ∨ d = c)
  | .chk c => if ok c D then thru act ok r (fun d => D d ∨ d = c) else (some i, D)
  | .rej => (some i, D)
def clOf : Does C → C → Prop
 | .add c, d => d = c
 | .chk c, d => d = c
 | _, _ => False
def zbY (act : Nat → Does C) (D0 : C → Prop) (i : Nat) : C → Prop := fun d => D0 d ∨ ∃ k, k < i ∧ clOf (act k) d
theorem zcE (act : Nat → Does C) (D0 : C → Prop) (i : Nat) : zbY act D0 (i + 1) = fun d => zbY act D0 i d ∨ clOf (act i) d := by
 funext d
 refine propext ⟨?_, ?_⟩
 ·
  rintro (h | ⟨k, hk, h⟩)
  ·
   exact .inl (.inl h)
  ·
   rcases Nat.lt_or_ge k i with h1 | h1
   ·
    exact .inl (.inr ⟨k, h1, h⟩)
   ·
    obtain rfl : k = i := by omega
    exact .inr h
 ·
  rintro ((h | ⟨k, hk, h⟩) | h)
  ·
   exact .inl h
  ·
   exact .inr ⟨k, by omega, h⟩
  ·
   exact .inr ⟨i, by omega, h⟩
theorem lost {x : Nat → A} {n i : Nat} (hi : i < n) (h : ¬ KeptF x (· < n) i) : ∃ k, k < i ∧ x k = x i ∧ ∀ j, j < i → ∃ q, q ≤ k ∧ x q = x j := by
 have h1 : ∀ j, j ≤ i → (∀ k, k < j → x k ≠ x j) → ∃ k, j ≤ k ∧ k < i ∧ x k = x i := fun j hj hm => Classical.byContradiction fun hn => h ⟨j, hj, by omega, fun k _ hk => hm k hk, fun k _ h1 h2 e => hn ⟨k, h1, h2, e⟩⟩
 have key : ∀ d m, d = i - m → m ≤ i → (∃ k, k < i ∧ x k = x i ∧ ∀ j, j < i → ∃ q, q ≤ k ∧ x q = x j) ∨ ∀ j, m ≤ j → j < i → ∃ q, q < m ∧ x q = x j := by
  intro d
  induction d using Nat.strongRecOn with
  | _ d _ => exact fun m _ _ => .inl (by
    have hg : ∀ e m, e = m → m ≤ i → (∀ j, m ≤ j → j < i → ∃ q, q < m ∧ x q = x j) → ∃ k, k < i ∧ x k = x i ∧ ∀ j, j < i → ∃ q, q ≤ k ∧ x q = x j := by
     intro e
     induction e with
     | zero =>
      intro m hm _ hall
      subst hm
      have h3 : i = 0 := by
       rcases Nat.eq_zero_or_pos i with h | h
       ·
        exact h
       ·
        obtain ⟨q, hq, _⟩ := hall 0 (Nat.le_refl _) h
        omega
      obtain ⟨k, _, hk, _⟩ := h1 0 o9 (fun k hk => by omega)
      omega
     | succ e ih =>
      intro m hm hmi hall
      subst hm
      by_cases hnew : ∀ k, k < e → x k ≠ x e
      ·
       obtain ⟨k, hk1, hk2, hk3⟩ := h1 e o9 hnew
       refine ⟨k, hk2, hk3, fun j hj => ?_⟩
       rcases Nat.lt_or_ge j (e + 1) with h4 | h4
       ·
        exact ⟨j, by omega, rfl⟩
       ·
        obtain ⟨q, hq, e1⟩ := hall j h4 hj
        exact ⟨q, by omega, e1⟩
      ·
       obtain ⟨p, hp⟩ := Classical.not_forall.1 hnew
       obtain ⟨hp1, hp2⟩ := Classical.not_imp.1 hp
       refine ih e rfl o9 fun j hj hji => ?_
       rcases Nat.lt_or_ge j (e + 1) with h4 | h4
       ·
        obtain rfl : j = e := by omega
        exact ⟨p, hp1, Classical.not_not.1 hp2⟩
       ·
        obtain ⟨q, hq, e1⟩ := hall j h4 hji
        rcases Nat.lt_or_ge q e with h5 | h5
        ·
         exact ⟨q, h5, e1⟩
        ·
         obtain rfl : q = e := by omega
         exact ⟨p, hp1, (Classical.not_not.1 hp2).trans e1⟩
    exact hg i i rfl (Nat.le_refl _) (fun j h3 h4 => by omega))
 rcases key i 0 o9 o9 with h3 | h3
 ·
  exact h3
 ·
  rcases Nat.eq_zero_or_pos i with h4 | h4
  ·
   subst h4
   obtain ⟨k, _, hk, _⟩ := h1 0 o9 (fun k hk => by omega)
   omega
  ·
   obtain ⟨q, hq, _⟩ := h3 0 o9 h4
   omega
theorem zjc (act : Nat → Does C) (ok : C → (C → Prop) → Prop) (hok : ∀ c D, ok c D → ok c (fun d => D d ∨ d = c)) {x : Nat → A} {n : Nat} (hact : ∀ i k, i < n → k < n → x i = x k → act i = act k)
  (q : Nat → Bool) (hq : ∀ i, i < n → KeptF x (· < n) i → q i = true) (D0 : C → Prop) : ∀ (d i : Nat), d = n - i → i ≤ n → (∀ k, k < i → act k ≠ .rej) → (∀ k c, k < i → act k = .chk c → ok c (zbY act D0 (k + 1))) →
  thru act ok ((List.range' i d).filter q) (zbY act D0 i) = thru act ok (List.range' i d) (zbY act D0 i) := by
 intro d
 induction d with
 | zero => intro i _ _ _ _; rfl
 | succ d ih =>
  intro i hd hi hr hc
  have hin : i < n := by omega
  have hrange : List.range' i (d + 1) = i :: List.range' (i + 1) d := by rw [List.range'_succ]
  rw [hrange]
  have next : (act i ≠ .rej) → (∀ c, act i = .chk c → ok c (zbY act D0 i)) → thru act ok ((List.range' (i + 1) d).filter q) (zbY act D0 (i + 1)) = thru act ok (List.range' (i + 1) d) (zbY act D0 (i + 1)) := fun h1 h2 => by
   refine ih (i + 1) o9 o9 (fun k hk => ?_) (fun k c hk e => ?_)
   ·
    rcases Nat.lt_or_ge k i with h3 | h3
    ·
     exact hr k h3
    ·
     obtain rfl : k = i := by omega
     exact h1
   ·
    rcases Nat.lt_or_ge k i with h3 | h3
    ·
     exact hc k c h3 e
    ·
     obtain rfl : k = i := by omega
     rw [zcE, e]
     exact hok c _ (h2 c e)
  by_cases hqi : q i = true
  ·
   rw [List.filter_cons_of_pos hqi]
   unfold thru
   cases ha : act i with
   | skip =>
    have e : zbY act D0 (i + 1) = zbY act D0 i := by rw [zcE, ha]; funext d; simp [clOf]
    have := next (by rw [ha]; simp) (by rw [ha]; simp)
    rw [e] at this
    exact this
   | add c =>
    have e : zbY act D0 (i + 1) = fun d => zbY act D0 i d ∨ d = c := by rw [zcE, ha]; rfl
    have := next (by rw [ha]; simp) (by rw [ha]; simp)
    rw [e] at this
    exact this
   | chk c =>
    by_cases h : ok c (zbY act D0 i)
    ·
     have e : zbY act D0 (i + 1) = fun d => zbY act D0 i d ∨ d = c := by rw [zcE, ha]; rfl
     have := next (by rw [ha]; simp) (by rw [ha]; intro c' e'; cases e'; exact h)
     rw [e] at this
     simp only [if_pos h]
     exact this
    ·
     simp only [if_neg h]
   | rej => rfl
  ·
   rw [List.filter_cons_of_neg hqi]
   obtain ⟨k, hk, hke, hall⟩ := lost hin (fun h => hqi (hq i hin h))
   have hak : act k = act i := hact k i o9 hin hke
   have hseen : zbY act D0 (k + 1) = zbY act D0 i := by
    funext d
    refine propext ⟨?_, ?_⟩
    ·
     rintro (h | ⟨j, hj, h⟩)
     ·
      exact .inl h
     ·
      exact .inr ⟨j, by omega, h⟩
    ·
     rintro (h | ⟨j, hj, h⟩)
     ·
      exact .inl h
     ·
      obtain ⟨p, hp, e⟩ := hall j hj
      exact .inr ⟨p, by omega, by rw [hact p j o9 o9 e]; exact h⟩
   have hsame : zbY act D0 (i + 1) = zbY act D0 i := by
    rw [zcE]
    funext d
    refine propext ⟨fun h => h.elim id fun h => .inr ⟨k, hk, by rw [hak]; exact h⟩, .inl⟩
   have hoki : ∀ c, act i = .chk c → ok c (zbY act D0 i) := fun c e => by rw [← hseen]; exact hc k c hk (hak.trans e)
   have hnr : act i ≠ .rej := by rw [← hak]; exact hr k hk
   have hn := next hnr hoki
   rw [hsame] at hn
   rw [hn]
   conv => rhs; unfold thru
   cases ha : act i with
   | skip => rfl
   | add c =>
    have e : zbY act D0 i = fun d => zbY act D0 i d ∨ d = c := hsame.symm.trans (by rw [zcE, ha]; rfl)
    show thru act ok _ (zbY act D0 i) = thru act ok _ (fun d => zbY act D0 i d ∨ d = c)
    rw [← e]
   | chk c =>
    have e : zbY act D0 i = fun d => zbY act D0 i d ∨ d = c := hsame.symm.trans (by rw [zcE, ha]; rfl)
    simp only [if_pos (hoki c ha)]
    rw [← e]
   | rej => exact absurd ha hnr
end
end Go.Proofs.YtinkbljjpafadaaHChain
end

section
namespace Go.Proofs.Ytinkbljjpafadaa.Pure
open Go.RowKit Go.Proofs.Ytinkbljjpafadaa.PAll Go.Proofs.YtinkbljjpafadaaW.PrintWords Go.Proofs.YtinkbljjpafadaaW.PrintLast Go.Proofs.YtinkbljjpafadaaHChain Go.Proofs.YtinkbljjpafadaaEv Go.Proofs.YtinkbljjpafadaaTab Go.Proofs.YtinkbljjpafadaaWords
noncomputable def stepC (t : List Cl) (mn : ByteArray) (param : Int) (merged inn : Bool) (a : Int) (s : ByteArray) (x : Lr) (l : List Lr) : Option (List Lr) :=
 if (zbD t x.f1 mn param).2 = false then some l
 else if x.f0 = inn then some (lvC merged l (zbD t x.f1 mn param).1 x.f2 a)
 else entC t merged x.f2 a s l (zbD t x.f1 mn param).1
theorem zlf {t : List Cl} (ht : TB t) (mn : ByteArray) (param : Int) (merged inn : Bool) (a b c : Int) (s : ByteArray) (x : Lr) (l : List Lr) (hl : l.length < 1000000) (hty : (zbD t x.f1 mn param).1.size ≤ 9223372036854775807) :
  Evn (fun k => zao.step k t mn param merged inn x (a, b, c, s, l)) ((stepC t mn param merged inn a s x l).map fun l' => (a, b, c, s, l')) := by
 unfold stepC
 by_cases h1 : (zbD t x.f1 mn param).2 = false
 ·
  refine Evn.pos h1 ((Evn.ret _).val ?_)
  rw [if_pos h1]; rfl
 refine Evn.neg h1 ?_
 rw [if_neg h1]
 by_cases h2 : x.f0 = inn
 ·
  rw [if_pos h2]
  exact Evn.pos h2 (Evn.bind (h := fun _ r => some (some r)) (zjK t merged x.f2 a b c s l _ hl hty) (Evn.ret _))
 ·
  rw [if_neg h2]
  exact Evn.neg h2 (zlG ht merged x.f2 a b c s l _ hl hty)
theorem zgz {t : List Cl} {mn : ByteArray} {param : Int} {merged inn : Bool} {a : Int} {s : ByteArray} {x : Lr} {l l' : List Lr} (h : stepC t mn param merged inn a s x l = some l') : l'.length ≤ l.length + 1 := by
 unfold stepC at h
 split at h
 ·
  obtain rfl := Option.some.inj h; omega
 ·
  split at h
  ·
   obtain rfl := Option.some.inj h; exact zkU _ _ _ _ _
  ·
   unfold entC at h
   split at h
   ·
    obtain rfl := Option.some.inj h; omega
   split at h
   ·
    split at h
    ·
     obtain rfl := Option.some.inj h; omega
    ·
     cases h
   split at h
   ·
    split at h
    ·
     obtain rfl := Option.some.inj h; omega
    split at h
    ·
     split at h
     ·
      cases h
     ·
      obtain rfl := Option.some.inj h; exact ziy _ _ _
    ·
     cases h
   ·
    cases h
noncomputable def runC (t : List Cl) (mn : ByteArray) (param : Int) (merged inn : Bool) (a : Int) (s : ByteArray) : List Lr → List Lr → Option (List Lr) × Int
 | [], l => (some l, 0)
 | x :: r, l => match stepC t mn param merged inn a s x l with
  | some l' => runC t mn param merged inn a s r l'
  | none => (none, x.f2)
theorem zkE {t : List Cl} (ht : TB t) (mn : ByteArray) (param : Int) (merged inn : Bool) (a b c : Int) (s : ByteArray) : ∀ (xs : List Lr) (l : List Lr), l.length + xs.length < 1000000 → (∀ x ∈ xs, (zbD t x.f1 mn param).1.size ≤ 9223372036854775807) →
  Evn (fun k => zao.run (zao.step k t mn param merged inn) xs (a, b, c, s, l)) (((runC t mn param merged inn a s xs l).1.map fun l' => (a, b, c, s, l')), (runC t mn param merged inn a s xs l).2)
 | [], l, _, _ => Evn.ret _
 | x :: r, l, hl, hty => by
  simp only [List.length_cons] at hl
  have h := zlf ht mn param merged inn a b c s x l o9 (hty x List.mem_cons_self)
  unfold runC
  cases hs : stepC t mn param merged inn a s x l with
  | none =>
   rw [hs] at h
   exact Evn.bind (h := fun k o => match o with | some v' => zao.run (zao.step k t mn param merged inn) r v' | none => some (none, x.f2)) h (Evn.ret _)
  | some l' =>
   rw [hs] at h
   have hl' := zgz hs
   exact Evn.bind (h := fun k o => match o with | some v' => zao.run (zao.step k t mn param merged inn) r v' | none => some (none, x.f2)) h (zkE ht mn param merged inn a b c s r l' o9 (fun y hy => hty y (List.mem_cons_of_mem _ hy)))
theorem zhn {α : Type} (l : List α) (i : Nat) (z : α) : l.getD i z ∈ l ∨ l.getD i z = z := by
 rw [List.getD_eq_getElem?_getD]
 cases h : l[i]? with
 | none => exact .inr rfl
 | some x => exact .inl (List.mem_of_getElem? h)
theorem zgX (nm : ByteArray) (l : List Vr) (h : ∀ v ∈ l, v.f1.size ≤ 30) : (zfb nm l).f1.size ≤ 30 := by
 unfold zfb
 split
 ·
  exact Nat.zero_le _
 ·
  unfold zbG
  rcases zhn l (idxV nm l 0).toNat z58 with h1 | h1
  ·
   exact h _ h1
  ·
   rw [h1]; exact Nat.zero_le _
theorem ziD (nm : ByteArray) (l : List Sg) : zec nm l ∈ l ∨ zec nm l = z61 := by
 unfold zec
 split
 ·
  exact .inr rfl
 ·
  unfold za6
  exact zhn l _ _
theorem fields_of {t : List Cl} (c : ByteArray) : ∀ v ∈ zb5 t c, ∃ x ∈ t, v ∈ x.f2 := by
 intro v hv
 obtain ⟨p, hp, hv⟩ := List.mem_flatMap.1 hv
 exact ⟨_, zdH t p (zcq t _ _ _ _ (List.mem_reverse.1 hp)), hv⟩
theorem zhY {t : List Cl} (c nm : ByteArray) : (∃ x ∈ t, methM t nm (methodAt t nm (lineL t c)) ∈ x.f3) ∨ methM t nm (methodAt t nm (lineL t c)) = z61 := by
 cases h : methodAt t nm (lineL t c) with
 | none => exact .inr rfl
 | some p =>
  have hp : p ∈ lineL t c := List.mem_of_find?_eq_some h
  rcases ziD nm (clsAt t p).f3 with h1 | h1
  ·
   exact .inl ⟨_, zdH t p (zcq t _ _ _ _ hp), h1⟩
  ·
   exact .inr h1
theorem ziv {t : List Cl} (ht : TS t) (c nm : ByteArray) (param : Int) : (zbD t c nm param).1.size ≤ 30 := by
 unfold zbD
 split
 ·
  exact zgX nm _ fun v hv => by obtain ⟨x, hx, hv⟩ := fields_of c v hv; exact ht.vs x hx v hv
 split
 ·
  exact Nat.zero_le _
 split
 ·
  exact Nat.zero_le _
 split
 ·
  rcases zhY (t := t) c nm with ⟨x, hx, hm⟩ | hm
  ·
   exact ht.rs x hx _ hm
  ·
   rw [hm]; exact Nat.zero_le _
 ·
  unfold zbG
  rcases zhn (methM t nm (methodAt t nm (lineL t c))).f1 param.toNat z58 with h1 | h1
  ·
   rcases zhY (t := t) c nm with ⟨x, hx, hm⟩ | hm
   ·
    exact ht.pv x hx _ hm _ h1
   ·
    rw [hm] at h1; cases h1
  ·
   rw [h1]; exact Nat.zero_le _
end Go.Proofs.Ytinkbljjpafadaa.Pure
end

section
namespace Go.Proofs.YtinkbljjpafadaaHChain
section
variable {A B : Type}
theorem zgv (f : B → A) : ∀ L : List B, (norm f L).head? = L.head?
 | [] => by
  obtain ⟨P, e1, e2, _⟩ := zcS f ([] : List B)
  rw [e1]
  cases P with
  | nil => rfl
  | cons i r => have := e2 i List.mem_cons_self; simp at this
 | b :: r => by
  obtain ⟨P, e1, e2, e3⟩ := zcS f (b :: r)
  have h0 : 0 ∈ P := (e3.mem 0).2 (zdj s9 fun k _ hk => by omega)
  cases P with
  | nil => cases h0
  | cons i q =>
   have hi : i = 0 := by
    rcases List.mem_cons.1 h0 with h | h
    ·
     exact h.symm
    ·
     have := (List.pairwise_cons.1 e3.sorted).1 0 h; omega
   subst hi
   rw [e1]
   rfl
theorem zi1 (f : B → A) (p : B → Bool) (hp : ∀ x y, f x = f y → p x = p y) (l : List B) : (norm f l).find? p = l.find? p := by
 have h : ∀ L : List B, L.find? p = (L.filter p).head? := fun L => by rw [List.head?_filter]
 rw [h, h, ← zgv f (l.filter p), ← zex f p hp l, zgv]
end
end Go.Proofs.YtinkbljjpafadaaHChain
end

section
namespace Go.Proofs.Ytinkbljjpafadaa.Pure
open Go.RowKit Go.Proofs.Ytinkbljjpafadaa.PAll Go.Proofs.YtinkbljjpafadaaW.PrintWords Go.Proofs.YtinkbljjpafadaaW.PrintLast Go.Proofs.YtinkbljjpafadaaHChain Go.Proofs.YtinkbljjpafadaaEv Go.Proofs.YtinkbljjpafadaaTab Go.Proofs.YtinkbljjpafadaaWords
open Classical in
noncomputable def rejB (t : List Cl) (mn : ByteArray) (param : Int) (inn : Bool) (a : Int) (s : ByteArray) (x : Lr) : Bool := decide (stepC t mn param false inn a s x [] = none)
theorem zk3 {t : List Cl} (mn : ByteArray) (param : Int) (merged inn : Bool) {a : Int} (ha : a ≠ 7) (s : ByteArray) (x : Lr) (l : List Lr) : stepC t mn param merged inn a s x l = if rejB t mn param inn a s x = true then none else some l := by
 have key : ∀ (merged : Bool) (l : List Lr), stepC t mn param merged inn a s x l = none ∨ stepC t mn param merged inn a s x l = some l := fun merged l => by
  unfold stepC lvC entC
  split
  ·
   exact .inr rfl
  split
  ·
   rw [if_neg (fun h => ha h.2)]; exact .inr rfl
  split
  ·
   exact .inr rfl
  split
  ·
   split
   ·
    exact .inr rfl
   ·
    exact .inl rfl
  split
  ·
   split
   ·
    exact .inr rfl
   ·
    exact .inl rfl
  ·
   exact .inl rfl
 have same : (stepC t mn param merged inn a s x l = none) ↔ (stepC t mn param false inn a s x [] = none) := by
  unfold stepC lvC entC
  split
  ·
   simp
  split
  ·
   simp
  split
  ·
   simp
  split
  ·
   split <;> simp
  split
  ·
   split
   ·
    simp
   ·
    simp
  ·
   simp
 unfold rejB
 by_cases h : stepC t mn param false inn a s x [] = none
 ·
  rw [if_pos (decide_eq_true h)]; exact same.2 h
 ·
  rw [if_neg (by simpa using h)]
  rcases key merged l with h1 | h1
  ·
   exact absurd (same.1 h1) h
  ·
   exact h1
theorem zhd {t : List Cl} (mn : ByteArray) (param : Int) (merged inn : Bool) {a : Int} (ha : a ≠ 7) (s : ByteArray) : ∀ (xs l : List Lr), runC t mn param merged inn a s xs l = match xs.find? (rejB t mn param inn a s) with | some x => (none, x.f2) | none => (some l, 0)
 | [], l => rfl
 | x :: r, l => by
  unfold runC
  rw [zk3 mn param merged inn ha s x l]
  by_cases h : rejB t mn param inn a s x = true
  ·
   rw [if_pos h, List.find?_cons_of_pos h]
  ·
   rw [if_neg h, List.find?_cons_of_neg h]
   exact zhd mn param merged inn ha s r l
theorem zih {t : List Cl} (mn : ByteArray) (param : Int) (inn : Bool) {a : Int} (ha : a ≠ 7) (s : ByteArray) (x y : Lr) (h : fL x = fL y) : rejB t mn param inn a s x = rejB t mn param inn a s y := by
 have h0 : x.f0 = y.f0 := congrArg Prod.fst h
 have h1 : x.f1 = y.f1 := congrArg Prod.snd h
 unfold rejB
 congr 1
 refine propext ?_
 unfold stepC lvC entC
 rw [h0, h1]
 split
 ·
  simp
 split
 ·
  simp
 split
 ·
  simp
 split
 ·
  split <;> simp
 split
 ·
  split
  ·
   simp
  ·
   simp
 ·
  simp
theorem zjB (inn : Bool) (l : List Lr) : wl inn (norm fL l) = norm fL (wl inn l) := by
 unfold wl
 split
 ·
  exact (zg6 fL l).symm
 ·
  rfl
theorem zjZ {t : List Cl} (mn : ByteArray) (param : Int) (inn : Bool) {a : Int} (ha : a ≠ 7) (s : ByteArray) (lo l l' : List Lr) :
  (runC t mn param true inn a s (wl inn (norm fL lo)) l').2 = (runC t mn param false inn a s (wl inn lo) l).2 ∧ ((runC t mn param false inn a s (wl inn lo) l).1 = none ∧ (runC t mn param true inn a s (wl inn (norm fL lo)) l').1 = none ∨ (runC t mn param false inn a s (wl inn lo) l) = (some l, 0) ∧ (runC t mn param true inn a s (wl inn (norm fL lo)) l') = (some l', 0)) := by
 rw [zhd mn param true inn ha, zhd mn param false inn ha, zjB, zi1 fL _ (zih mn param inn ha s)]
 cases (wl inn lo).find? (rejB t mn param inn a s) with
 | some x => exact ⟨rfl, .inl ⟨rfl, rfl⟩⟩
 | none => exact ⟨rfl, .inr ⟨rfl, rfl⟩⟩
open Classical in
noncomputable def zee (t : List Cl) (mn : ByteArray) (param : Int) (inn : Bool) (x : Lr) : Does ByteArray :=
 if (zbD t x.f1 mn param).2 = false then .skip else if x.f0 = inn then (if kd (zbD t x.f1 mn param).1 = 3 then .add (zbD t x.f1 mn param).1 else .skip)
 else if kd (zbD t x.f1 mn param).1 = 2 then .skip else if kd (zbD t x.f1 mn param).1 = 3 then .chk (zbD t x.f1 mn param).1 else .rej
def okD (t : List Cl) (s : ByteArray) (c : ByteArray) (D : ByteArray → Prop) : Prop := ∀ m ∈ mem t c, m ∈ mem t s ∧ ∀ d, D d → m ∈ mem t d
theorem zkr (t : List Cl) (s c : ByteArray) (D : ByteArray → Prop) (h : okD t s c D) : okD t s c (fun d => D d ∨ d = c) := fun m hm => ⟨(h m hm).1, fun d hd => hd.elim ((h m hm).2 d) (fun e => e ▸ hm)⟩
noncomputable def laid (t : List Cl) (mn : ByteArray) (param : Int) (inn : Bool) (x : Lr) : Option Lr :=
 if (zbD t x.f1 mn param).2 = false then none else if kd (zbD t x.f1 mn param).1 = 3 then some ⟨!decide (x.f0 = inn), (zbD t x.f1 mn param).1, x.f2⟩ else none
noncomputable def lay1 (t : List Cl) (mn : ByteArray) (param : Int) (merged inn : Bool) (l : List Lr) (x : Lr) : List Lr := match laid t mn param inn x with
 | some y => bhd merged l y
 | none => l
theorem zkq {t : List Cl} (mn : ByteArray) (param : Int) (merged inn : Bool) (s : ByteArray) (x : Lr) (l : List Lr) (D : ByteArray → Prop) (hD : ∀ c, hasC l c ↔ D c) :
  match zee t mn param inn x with
  | .skip => stepC t mn param merged inn 7 s x l = some (lay1 t mn param merged inn l x) ∧ ∀ c, hasC (lay1 t mn param merged inn l x) c ↔ D c
  | .add c => stepC t mn param merged inn 7 s x l = some (lay1 t mn param merged inn l x) ∧ ∀ d, hasC (lay1 t mn param merged inn l x) d ↔ D d ∨ d = c
  | .chk c => (okD t s c D → stepC t mn param merged inn 7 s x l = some (lay1 t mn param merged inn l x) ∧ ∀ d, hasC (lay1 t mn param merged inn l x) d ↔ D d ∨ d = c) ∧ (¬ okD t s c D → stepC t mn param merged inn 7 s x l = none)
  | .rej => stepC t mn param merged inn 7 s x l = none := by
 unfold zee stepC lay1 laid
 by_cases h1 : (zbD t x.f1 mn param).2 = false
 ·
  simp only [if_pos h1]
  exact ⟨trivial, hD⟩
 simp only [if_neg h1]
 by_cases h2 : x.f0 = inn
 ·
  simp only [if_pos h2]
  unfold lvC
  by_cases h3 : kd (zbD t x.f1 mn param).1 = 3
  ·
   simp only [if_pos h3, h3, h2, and_self, if_true, decide_true, Bool.not_true]
   exact ⟨trivial, fun d => by rw [zhN, hD]; exact or_congr_right eq_comm⟩
  ·
   simp only [if_neg h3, h3, false_and, if_false]
   exact ⟨trivial, hD⟩
 simp only [if_neg h2]
 unfold entC
 by_cases h4 : kd (zbD t x.f1 mn param).1 = 2
 ·
  have h3 : ¬ kd (zbD t x.f1 mn param).1 = 3 := by rw [h4]; decide
  simp only [if_pos h4, if_neg h3]
  exact ⟨trivial, hD⟩
 simp only [if_neg h4]
 by_cases h3 : kd (zbD t x.f1 mn param).1 = 3
 ·
  have h5 : ¬ kd (zbD t x.f1 mn param).1 = 1 := by rw [h3]; decide
  simp only [if_pos h3, if_neg h5, if_neg (show ¬ (7 : Int) = 6 by decide), if_true, decide_eq_false h2, Bool.not_false]
  have hiff : okD t s (zbD t x.f1 mn param).1 D ↔ ∀ m ∈ mem t (zbD t x.f1 mn param).1, m ∈ shw t s l := by
   unfold okD
   refine forall₂_congr fun m _ => ?_
   rw [zlr]
   exact and_congr_right fun _ => forall_congr' fun d => by rw [hD]
  refine ⟨fun h => ?_, fun h => ?_⟩
  ·
   have : ¬ ((mem t (zbD t x.f1 mn param).1).any fun x => !hasM (shw t s l) x) = true := fun e => (zje _ _).1 e (hiff.1 h)
   rw [if_neg this]
   exact ⟨rfl, fun d => by rw [zhN, hD]; exact or_congr_right eq_comm⟩
  ·
   rw [if_pos ((zje _ _).2 fun e => h (hiff.2 e))]
 ·
  simp only [if_neg h3]
  by_cases h5 : kd (zbD t x.f1 mn param).1 = 1
  ·
   have := (zj6 (s := (zbD t x.f1 mn param).1) (by rcases zj8 (zbD t x.f1 mn param).1 with h | h | h | h; exact h.2; all_goals (rw [h5] at h; exact absurd h.1 d9))).2.2
   rw [if_pos h5, if_neg (fun e => this e.symm)]
  ·
   rw [if_neg h5]
noncomputable def actOf (t : List Cl) (mn : ByteArray) (param : Int) (inn : Bool) (X : List Lr) (i : Nat) : Does ByteArray := match X[i]? with
 | some x => zee t mn param inn x
 | none => .skip
theorem zeM {t : List Cl} (mn : ByteArray) (param : Int) (merged inn : Bool) (s : ByteArray) (X : List Lr) : ∀ (P : List Nat) (l : List Lr) (D : ByteArray → Prop), (∀ i ∈ P, i < X.length) → (∀ c, hasC l c ↔ D c) →
  match (thru (actOf t mn param inn X) (okD t s) P D).1 with
  | some i => ∃ x, X[i]? = some x ∧ runC t mn param merged inn 7 s (pick X P) l = (none, x.f2)
  | none => runC t mn param merged inn 7 s (pick X P) l = (some ((pick X P).foldl (lay1 t mn param merged inn) l), 0)
 | [], l, D, _, _ => rfl
 | i :: r, l, D, hP, hD => by
  have hi := hP i List.mem_cons_self
  have hx : X[i]? = some X[i] := List.getElem?_eq_getElem hi
  have ep : pick X (i :: r) = X[i] :: pick X r := by
   unfold pick
   rw [List.filterMap_cons_some hx]
  have ih := fun l' D' hD' => zeM (t := t) mn param merged inn s X r l' D' (fun j hj => hP j (List.mem_cons_of_mem _ hj)) hD'
  have hs := zkq (t := t) mn param merged inn s X[i] l D hD
  have ea : actOf t mn param inn X i = zee t mn param inn X[i] := by unfold actOf; rw [hx]
  rw [ep]
  unfold thru runC
  rw [ea]
  cases hdo : zee t mn param inn X[i] with
  | skip =>
   rw [hdo] at hs
   rw [hs.1]
   exact ih _ D hs.2
  | add c =>
   rw [hdo] at hs
   rw [hs.1]
   exact ih _ _ hs.2
  | chk c =>
   rw [hdo] at hs
   by_cases h : okD t s c D
   ·
    have h1 := hs.1 h
    rw [h1.1]
    simp only [if_pos h]
    exact ih _ _ h1.2
   ·
    rw [hs.2 h]
    simp only [if_neg h]
    exact ⟨_, hx, rfl⟩
  | rej =>
   rw [hdo] at hs
   have hs' : stepC t mn param merged inn 7 s X[i] l = none := hs
   rw [hs']
   exact ⟨_, hx, rfl⟩
theorem zgY {t : List Cl} (mn : ByteArray) (param : Int) (inn : Bool) (x y : Lr) (h : fL x = fL y) : zee t mn param inn x = zee t mn param inn y := by
 have h0 : x.f0 = y.f0 := congrArg Prod.fst h
 have h1 : x.f1 = y.f1 := congrArg Prod.snd h
 unfold zee
 rw [h0, h1]
theorem zeB {t : List Cl} (mn : ByteArray) (param : Int) (inn : Bool) (x y : Lr) (h : fL x = fL y) : (laid t mn param inn x).map fL = (laid t mn param inn y).map fL := by
 have h0 : x.f0 = y.f0 := congrArg Prod.fst h
 have h1 : x.f1 = y.f1 := congrArg Prod.snd h
 unfold laid
 rw [h0, h1]
 split
 ·
  rfl
 ·
  split
  ·
   rfl
  ·
   rfl
theorem zcM {α β : Type} (f : α → Option β) (z : β) : ∀ l : List α, l.filterMap f = (l.filter fun x => (f x).isSome).map fun x => (f x).getD z
 | [] => rfl
 | x :: r => by
  rw [List.filterMap_cons, List.filter_cons]
  cases h : f x with
  | none => simpa using zcM f z r
  | some y => simpa [h] using zcM f z r
theorem zgy {t : List Cl} (mn : ByteArray) (param : Int) (inn : Bool) : ∀ (xs l : List Lr), xs.foldl (lay1 t mn param false inn) l = l ++ xs.filterMap (laid t mn param inn)
 | [], l => by simp
 | x :: r, l => by
  rw [List.foldl_cons, zgy mn param inn r, List.filterMap_cons]
  unfold lay1
  cases laid t mn param inn x with
  | none => rfl
  | some y => simp [bhd]
theorem zho (L : List Lr) (y : Lr) : norm fL (norm fL L ++ [y]) = norm fL (L ++ [y]) := by
 have h := zfn fL fL (id : Lr → Lr) (fun _ _ h => h) [] [y] L
 simpa using h
theorem zfX {t : List Cl} (mn : ByteArray) (param : Int) (inn : Bool) : ∀ (xs l : List Lr), xs.foldl (lay1 t mn param true inn) (norm fL l) = norm fL (l ++ xs.filterMap (laid t mn param inn))
 | [], l => by simp
 | x :: r, l => by
  rw [List.foldl_cons, List.filterMap_cons]
  unfold lay1
  cases laid t mn param inn x with
  | none => exact zfX mn param inn r l
  | some y =>
   have h1 : bhd true (norm fL l) y = norm fL (l ++ [y]) := by
    unfold bhd; rw [if_pos rfl]; exact zho l y
   have h2 := zfX (t := t) mn param inn r (l ++ [y])
   show List.foldl (lay1 t mn param true inn) (bhd true (norm fL l) y) r = _
   rw [h1, h2]
   simp
theorem zjw {t : List Cl} (mn : ByteArray) (param : Int) (inn : Bool) (l X : List Lr) : norm fL (l ++ (norm fL X).filterMap (laid t mn param inn)) = norm fL (l ++ X.filterMap (laid t mn param inn)) := by
 obtain ⟨z, hz⟩ : ∃ z : Lr, z = ⟨false, ⟨#[]⟩, 0⟩ := ⟨_, rfl⟩
 have hp : ∀ x y, fL x = fL y → (laid t mn param inn x).isSome = (laid t mn param inn y).isSome := fun x y h => by
  have := congrArg Option.isSome (zeB (t := t) mn param inn x y h)
  simpa using this
 have hg : ∀ x y, fL x = fL y → fL ((laid t mn param inn x).getD z) = fL ((laid t mn param inn y).getD z) := fun x y h => by
  have := zeB (t := t) mn param inn x y h
  cases h1 : laid t mn param inn x <;> cases h2 : laid t mn param inn y <;> rw [h1, h2] at this <;> simp_all
 have e := fun M : List Lr => zfn fL fL (fun x => (laid t mn param inn x).getD z) hg l [] M
 have e1 := e ((norm fL X).filter fun x => (laid t mn param inn x).isSome)
 have e2 := e (X.filter fun x => (laid t mn param inn x).isSome)
 rw [zex fL _ hp] at e1
 rw [zcM _ z, zcM _ z]
 simp only [List.append_nil] at e1 e2
 rw [← e1, ← e2]
theorem zfa {t : List Cl} (mn : ByteArray) (param : Int) (merged inn : Bool) (a : Int) (s : ByteArray) : ∀ (xs l : List Lr), (∃ x ∈ xs, runC t mn param merged inn a s xs l = (none, x.f2)) ∨ ∃ l', runC t mn param merged inn a s xs l = (some l', 0) ∧ l'.length ≤ l.length + xs.length
 | [], l => .inr ⟨l, rfl, by simp⟩
 | x :: r, l => by
  unfold runC
  cases h : stepC t mn param merged inn a s x l with
  | none => exact .inl ⟨x, List.mem_cons_self, rfl⟩
  | some l' =>
   have hl := zgz h
   rcases zfa (t := t) mn param merged inn a s r l' with ⟨y, hy, e⟩ | ⟨l2, e, h2⟩
   ·
    exact .inl ⟨y, List.mem_cons_of_mem _ hy, e⟩
   ·
    exact .inr ⟨l2, e, by simp only [List.length_cons]; omega⟩
theorem zij (X : List Lr) : ∃ q : Nat → Bool, norm fL X = pick X ((List.range X.length).filter q) ∧ ∀ i, i < X.length → KeptF (fun k => (X[k]?).map fL) (· < X.length) i → q i = true := by
 classical
 exact ⟨_, zc8 fL X, fun i hi hk => decide_eq_true ⟨hi, .inl hk⟩⟩
theorem ziM {t : List Cl} (mn : ByteArray) (param : Int) (inn : Bool) (s : ByteArray) (X l : List Lr) :
  (∃ x, runC t mn param false inn 7 s X l = (none, x) ∧ runC t mn param true inn 7 s (norm fL X) (norm fL l) = (none, x)) ∨
  runC t mn param false inn 7 s X l = (some (l ++ X.filterMap (laid t mn param inn)), 0) ∧ runC t mn param true inn 7 s (norm fL X) (norm fL l) = (some (norm fL (l ++ X.filterMap (laid t mn param inn))), 0) := by
 obtain ⟨q, hn, hq⟩ := zij X
 have h1 := zeM (t := t) mn param false inn s X (List.range X.length) l (hasC l) (fun i hi => List.mem_range.1 hi) (fun c => Iff.rfl)
 have h2 := zeM (t := t) mn param true inn s X ((List.range X.length).filter q) (norm fL l) (hasC l) (fun i hi => List.mem_range.1 (List.mem_filter.1 hi).1) (fun c => zf9 l c)
 have h3 := zjc (actOf t mn param inn X) (okD t s) (fun c D h => zkr t s c D h) (x := fun k => (X[k]?).map fL) (n := X.length) (fun i k hi hk h => by
  unfold actOf
  simp only [List.getElem?_eq_getElem hi, List.getElem?_eq_getElem hk, Option.map_some, Option.some.injEq] at h ⊢
  exact zgY mn param inn _ _ h) q hq (hasC l) X.length 0 o9 o9 (fun k hk => by omega) (fun k c hk => by omega)
 have hs : zbY (actOf t mn param inn X) (hasC l) 0 = hasC l := by
  funext d
  refine propext ⟨fun h => h.elim id fun ⟨k, hk, _⟩ => by omega, .inl⟩
 rw [hs, ← List.range_eq_range'] at h3
 rw [zdX] at h1
 rw [← hn, h3] at h2
 cases ho : (thru (actOf t mn param inn X) (okD t s) (List.range X.length) (hasC l)).1 with
 | some i =>
  rw [ho] at h1 h2
  obtain ⟨x, hx, e1⟩ := h1
  obtain ⟨y, hy, e2⟩ := h2
  obtain rfl := Option.some.inj (hx.symm.trans hy)
  exact .inl ⟨_, e1, e2⟩
 | none =>
  rw [ho] at h1 h2
  refine .inr ⟨?_, ?_⟩
  ·
   rw [← zgy]; exact h1
  ·
   rw [← zjw, ← zfX]; exact h2
theorem ziY {t : List Cl} (mn : ByteArray) (param : Int) (inn : Bool) (a : Int) (s : ByteArray) (lo l : List Lr) :
  (∃ x ∈ lo, runC t mn param false inn a s (wl inn lo) l = (none, x.f2) ∧ runC t mn param true inn a s (wl inn (norm fL lo)) (norm fL l) = (none, x.f2)) ∨
  ∃ l', l'.length ≤ l.length + lo.length ∧ runC t mn param false inn a s (wl inn lo) l = (some l', 0) ∧ runC t mn param true inn a s (wl inn (norm fL lo)) (norm fL l) = (some (norm fL l'), 0) := by
 have hmem : ∀ x, x ∈ wl inn lo → x ∈ lo := fun x hx => by
  unfold wl at hx
  split at hx
  ·
   simpa using hx
  ·
   exact hx
 have hlen : (wl inn lo).length = lo.length := by unfold wl; split <;> simp
 have key : (∃ x, runC t mn param false inn a s (wl inn lo) l = (none, x) ∧ runC t mn param true inn a s (wl inn (norm fL lo)) (norm fL l) = (none, x)) ∨
   ∃ l', runC t mn param false inn a s (wl inn lo) l = (some l', 0) ∧ runC t mn param true inn a s (wl inn (norm fL lo)) (norm fL l) = (some (norm fL l'), 0) := by
  by_cases ha : a = 7
  ·
   subst ha
   rw [zjB]
   rcases ziM (t := t) mn param inn s (wl inn lo) l with h | h
   ·
    exact .inl h
   ·
    exact .inr ⟨_, h.1, h.2⟩
  ·
   obtain ⟨h1, h2 | h2⟩ := zjZ (t := t) mn param inn ha s lo l (norm fL l)
   ·
    exact .inl ⟨_, Prod.ext h2.1 rfl, Prod.ext h2.2 h1⟩
   ·
    exact .inr ⟨l, h2.1, h2.2⟩
 rcases zfa (t := t) mn param false inn a s (wl inn lo) l with ⟨x, hx, e⟩ | ⟨l', e, hl'⟩
 ·
  rcases key with ⟨y, e1, e2⟩ | ⟨l2, e1, e2⟩
  ·
   have : y = x.f2 := by rw [e] at e1; exact (congrArg Prod.snd e1).symm
   subst this
   exact .inl ⟨x, hmem x hx, e1, e2⟩
  ·
   rw [e] at e1; cases congrArg Prod.fst e1
 ·
  rcases key with ⟨y, e1, e2⟩ | ⟨l2, e1, e2⟩
  ·
   rw [e] at e1; cases congrArg Prod.fst e1
  ·
   have : l' = l2 := by rw [e] at e1; exact Option.some.inj (congrArg Prod.fst e1)
   subst this
   exact .inr ⟨l', by omega, e1, e2⟩
noncomputable def thrC (t : List Cl) (mn : ByteArray) (param : Int) (merged inn : Bool) (a0 : Int) (lo : List Lr) (a : Int) (s : ByteArray) (l : List Lr) : Option (List Lr) × Int := if a0 = 7 then runC t mn param merged inn a s (wl inn lo) l else (some l, 0)
noncomputable def outC (a b c : Int) (s : ByteArray) (r : Option (List Lr) × Int) : Int × Int × Int × ByteArray × List Lr × Int := zaI.out r.2 (r.1.map fun l' => (a, b, c, s, l'))
theorem zd3 {t : List Cl} (ht : TS t) (mn : ByteArray) (param : Int) (merged inn : Bool) (a0 b0 c0 : Int) (s0 : ByteArray) (lo : List Lr) (a b c : Int) (s : ByteArray) (l : List Lr) (hlo : lo.length ≤ 60) (hl : l.length ≤ 60) :
  Evn (fun k => zao.f k t a0 b0 c0 s0 lo mn param a b c s l merged inn) (outC a b c s (thrC t mn param merged inn a0 lo a s l)) := by
 unfold thrC
 refine Evn.cbind (zem l o9) ?_
 by_cases h : a0 = 7
 ·
  have hf : zao.fits t lo = true := by
   unfold zao.fits
   simp only [Bool.and_eq_true, List.all_eq_true, decide_eq_true_eq]
   exact ⟨⟨ht.toTB.small, by omega⟩, fun x _ => by have := ht.toTB.fields x.f1; omega⟩
  have hw : (wl inn lo).length = lo.length := by unfold wl; split <;> simp
  have hr := zkE ht.toTB mn param merged inn a b c s (wl inn lo) l o9 (fun x _ => by have := ziv ht x.f1 mn param; omega)
  rw [if_pos h]
  exact Evn.pos h (Evn.pos hf (Evn.bind hr (Evn.ret _)))
 ·
  rw [if_neg h]
  exact Evn.neg h (Evn.ret _)
theorem zgD {t : List Cl} (ht : TS t) (mn : ByteArray) (param : Int) (merged : Bool) (a0 b0 c0 : Int) (s0 : ByteArray) (lo : List Lr) (a b c : Int) (s : ByteArray) (l : List Lr) (hlo : lo.length ≤ 60) (hl : l.length ≤ 60) :
  Evn (fun k => zbe.f k t a0 b0 c0 s0 lo mn param a b c s l merged) (outC a b c s (thrC t mn (if param < 0 then -2 else param) merged true a0 lo a s l)) := by
 by_cases h : param < 0
 ·
  rw [if_pos h]
  exact Evn.pos h (Evn.bind (zd3 ht mn (-2) merged true a0 b0 c0 s0 lo a b c s l hlo hl) (Evn.ret _))
 ·
  rw [if_neg h]
  exact Evn.neg h (Evn.bind (zd3 ht mn param merged true a0 b0 c0 s0 lo a b c s l hlo hl) (Evn.ret _))
theorem zfs {t : List Cl} (ht : TS t) (mn : ByteArray) (merged : Bool) (a0 b0 c0 : Int) (s0 : ByteArray) (lo : List Lr) (a b c : Int) (s : ByteArray) (l : List Lr) (hlo : lo.length ≤ 60) (hl : l.length ≤ 60) :
  Evn (fun k => zbk.f k t a0 b0 c0 s0 lo mn a b c s l merged) (outC a b c s (thrC t mn (-1) merged false a0 lo a s l)) :=
 Evn.bind (zd3 ht mn (-1) merged false a0 b0 c0 s0 lo a b c s l hlo hl) (Evn.ret _)
theorem ziL {t : List Cl} (mn : ByteArray) (param : Int) (inn : Bool) (a0 a : Int) (s : ByteArray) (lo l : List Lr) :
  (∃ x ∈ lo, thrC t mn param false inn a0 lo a s l = (none, x.f2) ∧ thrC t mn param true inn a0 (norm fL lo) a s (norm fL l) = (none, x.f2)) ∨
  ∃ l', l'.length ≤ l.length + lo.length ∧ thrC t mn param false inn a0 lo a s l = (some l', 0) ∧ thrC t mn param true inn a0 (norm fL lo) a s (norm fL l) = (some (norm fL l'), 0) := by
 unfold thrC
 by_cases h : a0 = 7
 ·
  rw [if_pos h, if_pos h]
  exact ziY mn param inn a s lo l
 ·
  rw [if_neg h, if_neg h]
  exact .inr ⟨l, by omega, rfl, rfl⟩
theorem zlk (l : List Lr) (hl : l.length < 1000000) : ∀ (d i : Nat), d = l.length - i → i ≤ l.length →
  ∃ b, Evn (fun k => zaw.l0 k l (i : Int)) b ∧ (b = false → ∀ j, i ≤ j → ∀ h : j < l.length, l[j].f2 ≠ 0) := by
 intro d
 induction d with
 | zero =>
  intro i hd hi
  exact ⟨false, Evn.succ (Evn.neg o9 (Evn.ret _)), fun _ j h1 h2 => by omega⟩
 | succ d ih =>
  intro i hd hi
  have h : i < l.length := by omega
  by_cases h0 : l[i].f2 = 0
  ·
   exact ⟨true, Evn.succ (Evn.pos o9 (Evn.pos o9 (Evn.pos (by rw [rdT l i h]; exact h0) (Evn.ret _)))), fun e => by cases e⟩
  ·
   obtain ⟨r, h1, h2⟩ := ih (i + 1) o9 o9
   refine ⟨r, Evn.succ (Evn.pos o9 (Evn.pos o9 (Evn.neg (by rw [rdT l i h]; exact h0) ?_))), fun e j hij hj => ?_⟩
   ·
    rw [w1 (show i < l.length from h) o9]; exact h1
   ·
    rcases Nat.lt_or_ge i j with h3 | h3
    ·
     exact h2 e j h3 hj
    ·
     obtain rfl : j = i := by omega
     exact h0
theorem zkj (l : List Lr) (hl : l.length < 1000000) : ∃ b, Evn (fun k => zaw.f k l) b ∧ (b = false → ∀ x ∈ l, x.f2 ≠ 0) := by
 obtain ⟨b, h1, h2⟩ := zlk l hl l.length 0 rfl o9
 exact ⟨b, h1, fun e x hx => by obtain ⟨j, hj, rfl⟩ := List.getElem_of_mem hx; exact h2 e j o9 hj⟩
theorem ziA (lab : Int) (h : lab ≠ 0) : Evn (fun k => zaC.f k 0 0 0 (⟨#[]⟩ : ByteArray) [] lab 0 0 0 (⟨#[]⟩ : ByteArray) [] lab) true :=
 Evn.neg h (Evn.succ (Evn.pos rfl (Evn.bind (zfJ 0 0 0 (⟨#[]⟩ : ByteArray) [] s9) (Evn.bind (h := fun _ (t : Bool) => some t) (zfJ 0 0 0 (⟨#[]⟩ : ByteArray) [] s9) (Evn.ret _)))))
theorem ziu (a b c : Int) (s : ByteArray) (l : List Lr) (hl : l.length < 1000000) : Evn (fun k => zaC.f k a b c s l 0 a b c s (norm fL l) 0) true := by
 have hn : zaN.f a b c s l = some (a, b, c, s, norm fL l) := by
  unfold zaN.f
  rw [zfy l o9]; rfl
 have := zep fL l
 exact Evn.pos rfl (Evn.succ (Evn.cbind (h := fun k (bt : Int × Int × Int × ByteArray × List Lr) => (zaj.f k bt.1 bt.2.1 bt.2.2.1 bt.2.2.2.1 bt.2.2.2.2 a b c s (norm fL l)).bind fun t => some t) hn (Evn.bind (h := fun _ (t : Bool) => some t) (zfJ a b c s (norm fL l) o9) (Evn.ret _))))
theorem zhZ {t : List Cl} (mn : ByteArray) (param : Int) (inn : Bool) (a0 a b c : Int) (s : ByteArray) (lo l : List Lr) (hlo : lo.length ≤ 60) (hl : l.length ≤ 60) (hlab : ∀ x ∈ lo, x.f2 ≠ 0) {R1 R2 : Int × Int × Int × ByteArray × List Lr × Int}
  (h1 : R1 = outC a b c s (thrC t mn param false inn a0 lo a s l)) (h2 : R2 = outC a b c s (thrC t mn param true inn a0 (norm fL lo) a s (norm fL l))) :
  Evn (fun k => zaC.f k R1.1 R1.2.1 R1.2.2.1 R1.2.2.2.1 R1.2.2.2.2.1 R1.2.2.2.2.2 R2.1 R2.2.1 R2.2.2.1 R2.2.2.2.1 R2.2.2.2.2.1 R2.2.2.2.2.2) true := by
 rcases ziL (t := t) mn param inn a0 a s lo l with ⟨x, hx, e1, e2⟩ | ⟨l', hl', e1, e2⟩
 ·
  rw [e1] at h1
  rw [e2] at h2
  subst h1 h2
  exact ziA x.f2 (hlab x hx)
 ·
  rw [e1] at h1
  rw [e2] at h2
  subst h1 h2
  exact ziu a b c s l' o9
theorem CoerceShort : chaperonlaw16_CoerceShort.Pure := by
 intro t o mn param v _ _ _ _ _ _
 obtain ⟨a0, b0, c0, s0, lo⟩ := o
 obtain ⟨a, b, c, s, l⟩ := v
 refine Evn.ex (Evn.bind zkv ?_)
 obtain ⟨q1, h1, h2⟩ := zku t
 refine Evn.bind h1 ?_
 cases q1 with
 | true => exact Evn.pos rfl (Evn.ret _)
 | false =>
 have ht := h2 rfl
 refine Evn.neg s9 ?_
 obtain ⟨q2, h3, h4⟩ := zhA a b c s l
 refine Evn.bind h3 ?_
 cases q2 with
 | true => exact Evn.pos rfl (Evn.ret _)
 | false =>
 refine Evn.neg s9 ?_
 obtain ⟨q3, h5, h6⟩ := zhA a0 b0 c0 s0 lo
 refine Evn.bind h5 ?_
 cases q3 with
 | true => exact Evn.pos rfl (Evn.ret _)
 | false =>
 refine Evn.neg s9 ?_
 obtain ⟨hl, _⟩ := h4 rfl
 obtain ⟨hlo, _⟩ := h6 rfl
 by_cases hmn : decide ((mn.size : Int) > 60) = true
 ·
  exact Evn.pos hmn (Evn.ret _)
 refine Evn.neg hmn ?_
 obtain ⟨q4, h7, h8⟩ := zkj lo o9
 refine Evn.bind h7 ?_
 cases q4 with
 | true => exact Evn.pos rfl (Evn.ret _)
 | false =>
 refine Evn.neg s9 ?_
 have hlab := h8 rfl
 have hno : zaN.f a0 b0 c0 s0 lo = some (a0, b0, c0, s0, norm fL lo) := by
  unfold zaN.f
  rw [zfy lo o9]; rfl
 have hnv : zaN.f a b c s l = some (a, b, c, s, norm fL l) := by
  unfold zaN.f
  rw [zfy l o9]; rfl
 have l1 := zep fL lo
 have l2 := zep fL l
 refine Evn.bind (zgD ht mn param false a0 b0 c0 s0 lo a b c s l hlo hl) (Evn.cbind hno (Evn.cbind hnv (Evn.bind (zgD ht mn param true a0 b0 c0 s0 (norm fL lo) a b c s (norm fL l) o9 o9) ?_)))
 refine Evn.bind (zfs ht mn false a0 b0 c0 s0 lo a b c s l hlo hl) (Evn.cbind hno (Evn.cbind hnv (Evn.bind (zfs ht mn true a0 b0 c0 s0 (norm fL lo) a b c s (norm fL l) o9 o9) ?_)))
 refine Evn.pos rfl (Evn.bind (zhZ (t := t) mn _ true a0 a b c s lo l hlo hl hlab rfl rfl) (Evn.pos rfl (Evn.bind (zhZ (t := t) mn _ false a0 a b c s lo l hlo hl hlab rfl rfl) (Evn.ret _))))
end Go.Proofs.Ytinkbljjpafadaa.Pure
end
