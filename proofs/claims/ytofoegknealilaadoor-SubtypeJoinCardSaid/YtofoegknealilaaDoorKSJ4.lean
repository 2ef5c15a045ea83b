/- Parts of the proof of one statement, packed: what the program's functions compute. No conditions. -/
import Derived.Test.YtofoegknealilaaDoorKSJ1
import Derived.Test.YtofoegknealilaaDoorKSJ3
import Derived.Test.YtofoegknealilaaDoorKSJ2
import Derived.Below
set_option linter.unusedSimpArgs false
set_option linter.unusedVariables false
set_option maxRecDepth 100000
set_option maxHeartbeats 8000000
section
namespace Go.Proofs.YtofoegknealilaaDoor.PAll
open Go.RowKit Go.Proofs.YtofoegknealilaaDoorW.PrintWords Go.Proofs.YtofoegknealilaaDoorW.PrintLast Go.Proofs.YtofoegknealilaaDoorW.za4
attribute [local go_sem] zbd zbe zbp zbq za7 za8 zbc zbf
mutual
def zaf.l0 : Nat → List (S44) → Int → Option (Bool)
 | 0, _, _ => none
 | k + 1, x0, x3 => if x3 < (x0.length : Int) then (zaf.j1 k x0 x3 (decide (x3 < 10))) else (zaf.j1 k x0 x3 false)
def zaf.j1 : Nat → List (S44) → Int → Bool → Option (Bool)
 | 0, _, _, _ => none
 | k + 1, x0, x3, x14 => if x14 = true then (if 0 ≤ x3 then (if x3 < (x0.length : Int) then (if (((zai x0 x3).f0).size : Int) > 30 then (zaf.j2 k x0 x3 true ((zai x0 x3).f0) ((zai x0 x3).f1) ((zai x0 x3).f2) ((zai x0 x3).f3)) else (if (((zai x0 x3).f1).size : Int) > 30 then (zaf.j2 k x0 x3 true ((zai x0 x3).f0) ((zai x0 x3).f1) ((zai x0 x3).f2) ((zai x0 x3).f3)) else (if (((zai x0 x3).f2).length : Int) > 7 then (zaf.j2 k x0 x3 true ((zai x0 x3).f0) ((zai x0 x3).f1) ((zai x0 x3).f2) ((zai x0 x3).f3)) else (if (((zai x0 x3).f3).length : Int) > 7 then (zaf.j2 k x0 x3 true ((zai x0 x3).f0) ((zai x0 x3).f1) ((zai x0 x3).f2) ((zai x0 x3).f3)) else ((zao.f k ((zai x0 x3).f2)).bind fun t173 => (zaf.j2 k x0 x3 t173 ((zai x0 x3).f0) ((zai x0 x3).f1) ((zai x0 x3).f2) ((zai x0 x3).f3))))))) else (none)) else (none)) else (some (decide ((x0.length : Int) > 9)))
def zaf.j2 : Nat → List (S44) → Int → Bool → ByteArray → ByteArray → List (S74) → List (S57) → Option (Bool)
 | 0, _, _, _, _, _, _, _ => none
 | k + 1, x0, x3, x47, x173000, x173001, x173002, x173003 => if x47 = true then (some true) else (zaf.l1 k x0 x3 0 x173000 x173001 x173002 x173003)
def zaf.l1 : Nat → List (S44) → Int → Int → ByteArray → ByteArray → List (S74) → List (S57) → Option (Bool)
 | 0, _, _, _, _, _, _, _ => none
 | k + 1, x0, x3, x5, x173000, x173001, x173002, x173003 => if x5 < (x173003.length : Int) then (if 0 ≤ x5 then (if (((zaV x173003 x5).f0).size : Int) > 30 then (some true) else (if (((zaV x173003 x5).f2).size : Int) > 30 then (some true) else (if (((zaV x173003 x5).f1).length : Int) > 10 then (some true) else ((zao.f k ((zaV x173003 x5).f1)).bind fun t176 => (if t176 = true then (some true) else (zaf.l1 k x0 x3 (wrap64 (x5 + 1)) x173000 x173001 x173002 x173003)))))) else (none)) else (zaf.l0 k x0 (wrap64 (x3 + 1)))
end
def zaf.f (k : Nat) (l0 : List (S44)) : Option (Bool) := zaf.l0 k l0 0
theorem zaf.zbF : ∀ k, (∀ y0 y1, LeO (zaf.l0 k y0 y1) (zaf.l0 (k + 1) y0 y1)) ∧ (∀ y0 y1 y2, LeO (zaf.j1 k y0 y1 y2) (zaf.j1 (k + 1) y0 y1 y2)) ∧ (∀ y0 y1 y2 y3 y4 y5 y6, LeO (zaf.j2 k y0 y1 y2 y3 y4 y5 y6) (zaf.j2 (k + 1) y0 y1 y2 y3 y4 y5 y6)) ∧ (∀ y0 y1 y2 y3 y4 y5 y6, LeO (zaf.l1 k y0 y1 y2 y3 y4 y5 y6) (zaf.l1 (k + 1) y0 y1 y2 y3 y4 y5 y6))
 | 0 => ⟨fun _ _ r h => by simp [zaf.l0] at h, fun _ _ _ r h => by simp [zaf.j1] at h, fun _ _ _ _ _ _ _ r h => by simp [zaf.j2] at h, fun _ _ _ _ _ _ _ r h => by simp [zaf.l1] at h⟩
 | k + 1 => by
  obtain ⟨ih0, ih1, ih2, ih3⟩ := zaf.zbF k
  refine ⟨?_, ?_, ?_, ?_⟩
  ·
   intro y0 y1
   unfold zaf.l0
   repeat' first
   | (with_reducible exact ih0 _ _)
   | (with_reducible exact ih1 _ _ _)
   | (with_reducible exact ih2 _ _ _ _ _ _ _)
   | (with_reducible exact ih3 _ _ _ _ _ _ _)
   | (with_reducible exact zao.mono _ _)
   | (with_reducible exact LeO.refl _)
   | (with_reducible exact LeO.none _)
   | (with_reducible refine LeO.ite ?_ ?_)
   | (with_reducible refine LeO.bind ?_ (fun _ => ?_))
   | exact ih0 _ _
   | exact ih1 _ _ _
   | exact ih2 _ _ _ _ _ _ _
   | exact ih3 _ _ _ _ _ _ _
   | exact zao.mono _ _
   | exact LeO.none _
   | refine LeO.ite ?_ ?_
   | refine LeO.bind ?_ (fun _ => ?_)
  ·
   intro y0 y1 y2
   unfold zaf.j1
   repeat' first
   | (with_reducible exact ih0 _ _)
   | (with_reducible exact ih1 _ _ _)
   | (with_reducible exact ih2 _ _ _ _ _ _ _)
   | (with_reducible exact ih3 _ _ _ _ _ _ _)
   | (with_reducible exact zao.mono _ _)
   | (with_reducible exact LeO.refl _)
   | (with_reducible exact LeO.none _)
   | (with_reducible refine LeO.ite ?_ ?_)
   | (with_reducible refine LeO.bind ?_ (fun _ => ?_))
   | exact ih0 _ _
   | exact ih1 _ _ _
   | exact ih2 _ _ _ _ _ _ _
   | exact ih3 _ _ _ _ _ _ _
   | exact zao.mono _ _
   | exact LeO.none _
   | refine LeO.ite ?_ ?_
   | refine LeO.bind ?_ (fun _ => ?_)
  ·
   intro y0 y1 y2 y3 y4 y5 y6
   unfold zaf.j2
   repeat' first
   | (with_reducible exact ih0 _ _)
   | (with_reducible exact ih1 _ _ _)
   | (with_reducible exact ih2 _ _ _ _ _ _ _)
   | (with_reducible exact ih3 _ _ _ _ _ _ _)
   | (with_reducible exact zao.mono _ _)
   | (with_reducible exact LeO.refl _)
   | (with_reducible exact LeO.none _)
   | (with_reducible refine LeO.ite ?_ ?_)
   | (with_reducible refine LeO.bind ?_ (fun _ => ?_))
   | exact ih0 _ _
   | exact ih1 _ _ _
   | exact ih2 _ _ _ _ _ _ _
   | exact ih3 _ _ _ _ _ _ _
   | exact zao.mono _ _
   | exact LeO.none _
   | refine LeO.ite ?_ ?_
   | refine LeO.bind ?_ (fun _ => ?_)
  ·
   intro y0 y1 y2 y3 y4 y5 y6
   unfold zaf.l1
   repeat' first
   | (with_reducible exact ih0 _ _)
   | (with_reducible exact ih1 _ _ _)
   | (with_reducible exact ih2 _ _ _ _ _ _ _)
   | (with_reducible exact ih3 _ _ _ _ _ _ _)
   | (with_reducible exact zao.mono _ _)
   | (with_reducible exact LeO.refl _)
   | (with_reducible exact LeO.none _)
   | (with_reducible refine LeO.ite ?_ ?_)
   | (with_reducible refine LeO.bind ?_ (fun _ => ?_))
   | exact ih0 _ _
   | exact ih1 _ _ _
   | exact ih2 _ _ _ _ _ _ _
   | exact ih3 _ _ _ _ _ _ _
   | exact zao.mono _ _
   | exact LeO.none _
   | refine LeO.ite ?_ ?_
   | refine LeO.bind ?_ (fun _ => ?_)
theorem zaf.mono : ∀ a0 k, LeO (zaf.f k a0) (zaf.f (k + 1) a0) := by
 intro a0 k
 obtain ⟨ih0, ih1, ih2, ih3⟩ := zaf.zbF k
 unfold zaf.f
 repeat' first
   | (with_reducible exact ih0 _ _)
   | (with_reducible exact ih1 _ _ _)
   | (with_reducible exact ih2 _ _ _ _ _ _ _)
   | (with_reducible exact ih3 _ _ _ _ _ _ _)
   | (with_reducible exact zao.mono _ _)
   | (with_reducible exact LeO.refl _)
   | (with_reducible exact LeO.none _)
   | (with_reducible refine LeO.ite ?_ ?_)
   | (with_reducible refine LeO.bind ?_ (fun _ => ?_))
   | exact ih0 _ _
   | exact ih1 _ _ _
   | exact ih2 _ _ _ _ _ _ _
   | exact ih3 _ _ _ _ _ _ _
   | exact zao.mono _ _
   | exact LeO.none _
   | refine LeO.ite ?_ ?_
   | refine LeO.bind ?_ (fun _ => ?_)
theorem zaf.calls (k : Nat) (A0 : Option Addr) (c0 : Nat) (l0 : List (S44)) (r : Bool) (w : World) (hr0 : Kd.C k44 w A0 l0.length l0) (hc0 : l0.length ≤ c0) (h : zaf.f k l0 = some r) :
  Calls Tryd.prog 14 #[.slice A0 l0.length c0] w fun e w' => e = .returned (.bool r) ∧ Below w.heap.size w w' := by
 have hu44 := Tryd.underlying44
 have hu57 := Tryd.underlying57
 have HR0 := zaa.mk hr0
 have HC0 := zaa.mk hc0
 clear hr0 hc0
 have HB := zaa.mk (Below.refl w.heap.size w)
 have H : (zaf.l0 k l0 0) = some r := h
 clear h
 have H' := zaa.mk H
 clear H
 go_enter Tryd.func14, Tryd.ntmps14
 go_wp2
 go_loopg [3] k (fun kq v3 w' => ∃ (x3_1 : Int), v3 = .int .i64 x3_1 ∧ zaa (zaf.l0 kq l0 x3_1 = some r) ∧ zaa (kq ≤ k) ∧ zaa (Below w.heap.size w w'))
 case atStart => exact ⟨(0), (by first | rfl | (simp; done) | (simp [*]; done)), H', ⟨Nat.le_refl _⟩, ⟨by repeat (first | (with_reducible first | exact HB.out | apply zad | apply zac | apply zae) | exact HB.out)⟩⟩
 case round =>
  clear H'
  try clear c1
  obtain ⟨x3_1, rfl, HA, HK1, HB⟩ := hrel
  cases gk with
  | zero => exact absurd HA.out (by simp [zaf.l0])
  | succ k1 =>
   have H := HA.out
   clear HA
   simp only [zaf.l0] at H
   have HC2 := zaa.mk H
   clear H
   go_upto_region 2 with (fail)
   go_cut [14] (fun v14 wc => ∃ (kq : Nat) (x14_1 : Bool), v14 = .bool x14_1 ∧ zaa (zaf.j1 kq l0 x3_1 x14_1 = some r) ∧ zaa (kq ≤ k1) ∧ zaa (Below w.heap.size w wc))
   case first =>
    have H := HC2.out
    clear HC2
    by_cases c3 : x3_1 < (l0.length : Int)
    ·
     rw [if_pos c3] at H
     have c3b0 : decide (x3_1 < (l0.length : Int)) = true := decide_eq_true c3
     clear c3
     (first | rw [c3b0] | (simp only [i64_w, i32_w]; rw [c3b0]) | skip)
     have H' := zaa.mk H
     clear H
     go_wp2
     go_meet
     case rel => exact ⟨_, (decide (x3_1 < 10)), (by first | rfl | (simp; done) | (simp [*]; done)), H', ⟨by have := HK1.out; first | omega | exact Nat.le_refl _⟩, ⟨by repeat (first | (with_reducible first | exact HB.out | apply zad | apply zac | apply zae) | exact HB.out)⟩⟩
    ·
     rw [if_neg c3] at H
     have c3b0 : decide (x3_1 < (l0.length : Int)) = false := decide_eq_false c3
     clear c3
     (first | rw [c3b0] | (simp only [i64_w, i32_w]; rw [c3b0]) | skip)
     have H' := zaa.mk H
     clear H
     go_wp2
     go_meet
     case rel => exact ⟨_, (false), (by first | rfl | (simp; done) | (simp [*]; done)), H', ⟨by have := HK1.out; first | omega | exact Nat.le_refl _⟩, ⟨by repeat (first | (with_reducible first | exact HB.out | apply zad | apply zac | apply zae) | exact HB.out)⟩⟩
   case rest =>
    clear HC2
    try clear c1
    try clear p2
    try clear c3
    try clear c3b0
    obtain ⟨kq, x14_1, rfl, HA, HJ1, HB⟩ := hcut
    cases kq with
    | zero => exact absurd HA.out (by simp [zaf.j1])
    | succ kj1 =>
     have H := HA.out
     clear HA
     simp only [zaf.j1] at H
     by_cases c4 : x14_1 = true
     ·
      subst c4
      have H1 : (if 0 ≤ x3_1 then (if x3_1 < (l0.length : Int) then (if (((zai l0 x3_1).f0).size : Int) > 30 then (zaf.j2 kj1 l0 x3_1 true ((zai l0 x3_1).f0) ((zai l0 x3_1).f1) ((zai l0 x3_1).f2) ((zai l0 x3_1).f3)) else (if (((zai l0 x3_1).f1).size : Int) > 30 then (zaf.j2 kj1 l0 x3_1 true ((zai l0 x3_1).f0) ((zai l0 x3_1).f1) ((zai l0 x3_1).f2) ((zai l0 x3_1).f3)) else (if (((zai l0 x3_1).f2).length : Int) > 7 then (zaf.j2 kj1 l0 x3_1 true ((zai l0 x3_1).f0) ((zai l0 x3_1).f1) ((zai l0 x3_1).f2) ((zai l0 x3_1).f3)) else (if (((zai l0 x3_1).f3).length : Int) > 7 then (zaf.j2 kj1 l0 x3_1 true ((zai l0 x3_1).f0) ((zai l0 x3_1).f1) ((zai l0 x3_1).f2) ((zai l0 x3_1).f3)) else ((zao.f kj1 ((zai l0 x3_1).f2)).bind fun t173 => (zaf.j2 kj1 l0 x3_1 t173 ((zai l0 x3_1).f0) ((zai l0 x3_1).f1) ((zai l0 x3_1).f2) ((zai l0 x3_1).f3))))))) else (none)) else (none)) = some r := by rw [if_pos rfl] at H; exact H
      clear H
      have H := H1
      clear H1
      by_cases c5 : 0 ≤ x3_1
      ·
       rw [if_pos c5] at H
       have c5b0 : decide (0 ≤ x3_1) = true := decide_eq_true c5
       clear c5
       by_cases c6 : x3_1 < (l0.length : Int)
       ·
        rw [if_pos c6] at H
        have c6b0 : decide (x3_1 < (l0.length : Int)) = true := decide_eq_true c6
        clear c6
        have HC7 := zaa.mk H
        clear H
        have p171 : 0 ≤ (x3_1 : Int) := of_decide_eq_true (by first | (with_reducible assumption) | assumption)
        have q171 : x3_1 < (l0.length : Int) := of_decide_eq_true (by first | (with_reducible assumption) | assumption)
        obtain ⟨ad171, A171_2, c171_2, A171_3, c171_3, e171, hx171_0, hx171_1, hx171_2, hx171_3, hl171_2, hi171_2, hl171_3, hi171_3⟩ := zbS HR0.out x3_1 p171 q171
        cases e171
        replace hx171_0 := (HB.out.cell (World.block_lt_of_cell? w _ hx171_0)).trans hx171_0
        replace hx171_1 := (HB.out.cell (World.block_lt_of_cell? w _ hx171_1)).trans hx171_1
        replace hx171_2 := (HB.out.cell (World.block_lt_of_cell? w _ hx171_2)).trans hx171_2
        replace hx171_3 := (HB.out.cell (World.block_lt_of_cell? w _ hx171_3)).trans hx171_3
        have HR171_2 := zaa.mk hi171_2
        have HC171_2 := zaa.mk hl171_2
        clear hi171_2 hl171_2
        have HR171_3 := zaa.mk hi171_3
        have HC171_3 := zaa.mk hl171_3
        clear hi171_3 hl171_3
        replace p171 := eq_true p171
        replace q171 := eq_true q171
        go_upto_region 5 with (first | ((with_reducible refine zbj (N := 4) rfl ?_); (try (refine zbN (by rfl) ?_; dsimp only)); refine zbG ?hg (N := 4) ?hd (cs := #[.string (⟨#[]⟩ : ByteArray), .string (⟨#[]⟩ : ByteArray), .slice none 0 0, .slice none 0 0]) (t := 44) ?hr ?_; (case hd => rfl); (case hg => rfl); (case hr => first | (go_simp; done) | (go_simp; rfl)); intro gb172 hg w8 hbox hb; have n0_ := zaa.mk (zal (by repeat (first | (with_reducible first | exact HB.out | apply zad | apply zac | apply zae) | exact HB.out)) hb); have n1_ := zaa.mk (hbox); have n2_ := zaa.mk ((by rw [hg]; exact (zaN (by repeat (first | (with_reducible first | exact HB.out | apply zad | apply zac | apply zae) | exact HB.out))) : w.heap.size ≤ gb172)); have n3_ := zaa.mk ((by rw [hg]; exact (zaN (by repeat (first | (with_reducible first | exact HB.out | apply zad | apply zac | apply zae) | exact HB.out))) : w.heap.size ≤ gb172)); clear HB; have HB := n0_; have BK172 := n1_; have GW172 := n2_; have GE172 := n3_; clear n0_ n1_ n2_ n3_; clear hb hbox hg; have hcz9_0 : w8.cell? ⟨gb172, 0, none⟩ = some (.string (⟨#[]⟩ : ByteArray)) := (zaF BK172.out 0).trans rfl; have hcz9_1 : w8.cell? ⟨gb172, 1, none⟩ = some (.string (⟨#[]⟩ : ByteArray)) := (zaF BK172.out 1).trans rfl; have hcz9_2 : w8.cell? ⟨gb172, 2, none⟩ = some (.slice none 0 0) := (zaF BK172.out 2).trans rfl; have hcz9_3 : w8.cell? ⟨gb172, 3, none⟩ = some (.slice none 0 0) := (zaF BK172.out 3).trans rfl; have hfz9_0 := zat BK172.out 0; have hfz9_1 := zat BK172.out 1; have hfz9_2 := zat BK172.out 2; have hfz9_3 := zat BK172.out 3))
        (try simp only [Act.put, List.setIfInBounds_toArray, List.set_cons_zero, List.set_cons_succ])
        go_cut [47] (fun v47 wc => ∃ (kq : Nat) (x47_6 : Bool), v47 = .bool x47_6 ∧ zaa (zaf.j2 kq l0 x3_1 x47_6 ((zai l0 x3_1).f0) ((zai l0 x3_1).f1) ((zai l0 x3_1).f2) ((zai l0 x3_1).f3) = some r) ∧ zaa (kq ≤ kj1) ∧ zaa (wc.heap[gb172]? = some (.cells #[.string ((zai l0 x3_1).f0), .string ((zai l0 x3_1).f1), (.slice A171_2 ((zai l0 x3_1).f2).length c171_2), (.slice A171_3 ((zai l0 x3_1).f3).length c171_3)] 44 (0, 0))) ∧ zaa (Below w.heap.size w wc))
        case first =>
         have H := HC7.out
         clear HC7
         by_cases c10 : (((zai l0 x3_1).f0).size : Int) > 30
         ·
          rw [if_pos c10] at H
          have c10b0 : decide (30 < (((zai l0 x3_1).f0).size : Int)) = true := decide_eq_true c10
          have c10b1 : decide (30 < ((zai l0 x3_1).f0).size) = true := decide_eq_true o9
          clear c10
          (first | rw [c10b0] | (simp only [i64_w, i32_w]; rw [c10b0]) | skip)
          have H' := zaa.mk H
          clear H
          have hcz11_0 : w8.cell? ⟨gb172, 0, none⟩ = some (.string (⟨#[]⟩ : ByteArray)) := (zaF BK172.out 0).trans rfl
          have hcz11_1 : w8.cell? ⟨gb172, 1, none⟩ = some (.string (⟨#[]⟩ : ByteArray)) := (zaF BK172.out 1).trans rfl
          have hcz11_2 : w8.cell? ⟨gb172, 2, none⟩ = some (.slice none 0 0) := (zaF BK172.out 2).trans rfl
          have hcz11_3 : w8.cell? ⟨gb172, 3, none⟩ = some (.slice none 0 0) := (zaF BK172.out 3).trans rfl
          have hfz11_0 := zat BK172.out 0
          have hfz11_1 := zat BK172.out 1
          have hfz11_2 := zat BK172.out 2
          have hfz11_3 := zat BK172.out 3
          go_wp2
          go_meet
          case rel => exact ⟨_, (true), (by first | rfl | (simp; done) | (simp [*]; done)), H', ⟨by have := HK1.out; have := HJ1.out; first | omega | exact Nat.le_refl _⟩, ⟨by (with_reducible repeat (first | refine zaI ?_ _ | refine zaM ?_ | refine zaH ?_ _)); refine zaO (cs := #[.string ((zai l0 x3_1).f0), .string ((zai l0 x3_1).f1), .slice A171_2 ((zai l0 x3_1).f2).length c171_2, .slice none 0 0]) ?_ 3 _ rfl; (with_reducible repeat (first | refine zaI ?_ _ | refine zaM ?_ | refine zaH ?_ _)); refine zaO (cs := #[.string ((zai l0 x3_1).f0), .string ((zai l0 x3_1).f1), .slice none 0 0, .slice none 0 0]) ?_ 2 _ rfl; (with_reducible repeat (first | refine zaI ?_ _ | refine zaM ?_ | refine zaH ?_ _)); refine zaO (cs := #[.string ((zai l0 x3_1).f0), .string (⟨#[]⟩ : ByteArray), .slice none 0 0, .slice none 0 0]) ?_ 1 _ rfl; (with_reducible repeat (first | refine zaI ?_ _ | refine zaM ?_ | refine zaH ?_ _)); refine zaO (cs := #[.string (⟨#[]⟩ : ByteArray), .string (⟨#[]⟩ : ByteArray), .slice none 0 0, .slice none 0 0]) ?_ 0 _ rfl; (with_reducible repeat (first | refine zaI ?_ _ | refine zaM ?_ | refine zaH ?_ _)); exact BK172.out⟩, ⟨by repeat (first | (with_reducible first | exact HB.out | apply zad | apply zac | apply zae | refine zau ?_ GE172.out) | exact HB.out)⟩⟩
         ·
          rw [if_neg c10] at H
          have c10b0 : decide (30 < (((zai l0 x3_1).f0).size : Int)) = false := decide_eq_false c10
          have c10b1 : decide (30 < ((zai l0 x3_1).f0).size) = false := decide_eq_false o9
          clear c10
          (first | rw [c10b0] | (simp only [i64_w, i32_w]; rw [c10b0]) | skip)
          by_cases c12 : (((zai l0 x3_1).f1).size : Int) > 30
          ·
           rw [if_pos c12] at H
           have c12b0 : decide (30 < (((zai l0 x3_1).f1).size : Int)) = true := decide_eq_true c12
           have c12b1 : decide (30 < ((zai l0 x3_1).f1).size) = true := decide_eq_true o9
           clear c12
           have H' := zaa.mk H
           clear H
           have hcz13_0 : w8.cell? ⟨gb172, 0, none⟩ = some (.string (⟨#[]⟩ : ByteArray)) := (zaF BK172.out 0).trans rfl
           have hcz13_1 : w8.cell? ⟨gb172, 1, none⟩ = some (.string (⟨#[]⟩ : ByteArray)) := (zaF BK172.out 1).trans rfl
           have hcz13_2 : w8.cell? ⟨gb172, 2, none⟩ = some (.slice none 0 0) := (zaF BK172.out 2).trans rfl
           have hcz13_3 : w8.cell? ⟨gb172, 3, none⟩ = some (.slice none 0 0) := (zaF BK172.out 3).trans rfl
           have hfz13_0 := zat BK172.out 0
           have hfz13_1 := zat BK172.out 1
           have hfz13_2 := zat BK172.out 2
           have hfz13_3 := zat BK172.out 3
           go_wp2
           go_meet
           case rel => exact ⟨_, (true), (by first | rfl | (simp; done) | (simp [*]; done)), H', ⟨by have := HK1.out; have := HJ1.out; first | omega | exact Nat.le_refl _⟩, ⟨by (with_reducible repeat (first | refine zaI ?_ _ | refine zaM ?_ | refine zaH ?_ _)); refine zaO (cs := #[.string ((zai l0 x3_1).f0), .string ((zai l0 x3_1).f1), .slice A171_2 ((zai l0 x3_1).f2).length c171_2, .slice none 0 0]) ?_ 3 _ rfl; (with_reducible repeat (first | refine zaI ?_ _ | refine zaM ?_ | refine zaH ?_ _)); refine zaO (cs := #[.string ((zai l0 x3_1).f0), .string ((zai l0 x3_1).f1), .slice none 0 0, .slice none 0 0]) ?_ 2 _ rfl; (with_reducible repeat (first | refine zaI ?_ _ | refine zaM ?_ | refine zaH ?_ _)); refine zaO (cs := #[.string ((zai l0 x3_1).f0), .string (⟨#[]⟩ : ByteArray), .slice none 0 0, .slice none 0 0]) ?_ 1 _ rfl; (with_reducible repeat (first | refine zaI ?_ _ | refine zaM ?_ | refine zaH ?_ _)); refine zaO (cs := #[.string (⟨#[]⟩ : ByteArray), .string (⟨#[]⟩ : ByteArray), .slice none 0 0, .slice none 0 0]) ?_ 0 _ rfl; (with_reducible repeat (first | refine zaI ?_ _ | refine zaM ?_ | refine zaH ?_ _)); exact BK172.out⟩, ⟨by repeat (first | (with_reducible first | exact HB.out | apply zad | apply zac | apply zae | refine zau ?_ GE172.out) | exact HB.out)⟩⟩
          ·
           rw [if_neg c12] at H
           have c12b0 : decide (30 < (((zai l0 x3_1).f1).size : Int)) = false := decide_eq_false c12
           have c12b1 : decide (30 < ((zai l0 x3_1).f1).size) = false := decide_eq_false o9
           clear c12
           by_cases c14 : (((zai l0 x3_1).f2).length : Int) > 7
           ·
            rw [if_pos c14] at H
            have c14b0 : decide (7 < (((zai l0 x3_1).f2).length : Int)) = true := decide_eq_true c14
            have c14b1 : decide (7 < ((zai l0 x3_1).f2).length) = true := decide_eq_true o9
            clear c14
            have H' := zaa.mk H
            clear H
            have hcz15_0 : w8.cell? ⟨gb172, 0, none⟩ = some (.string (⟨#[]⟩ : ByteArray)) := (zaF BK172.out 0).trans rfl
            have hcz15_1 : w8.cell? ⟨gb172, 1, none⟩ = some (.string (⟨#[]⟩ : ByteArray)) := (zaF BK172.out 1).trans rfl
            have hcz15_2 : w8.cell? ⟨gb172, 2, none⟩ = some (.slice none 0 0) := (zaF BK172.out 2).trans rfl
            have hcz15_3 : w8.cell? ⟨gb172, 3, none⟩ = some (.slice none 0 0) := (zaF BK172.out 3).trans rfl
            have hfz15_0 := zat BK172.out 0
            have hfz15_1 := zat BK172.out 1
            have hfz15_2 := zat BK172.out 2
            have hfz15_3 := zat BK172.out 3
            go_wp2
            go_meet
            case rel => exact ⟨_, (true), (by first | rfl | (simp; done) | (simp [*]; done)), H', ⟨by have := HK1.out; have := HJ1.out; first | omega | exact Nat.le_refl _⟩, ⟨by (with_reducible repeat (first | refine zaI ?_ _ | refine zaM ?_ | refine zaH ?_ _)); refine zaO (cs := #[.string ((zai l0 x3_1).f0), .string ((zai l0 x3_1).f1), .slice A171_2 ((zai l0 x3_1).f2).length c171_2, .slice none 0 0]) ?_ 3 _ rfl; (with_reducible repeat (first | refine zaI ?_ _ | refine zaM ?_ | refine zaH ?_ _)); refine zaO (cs := #[.string ((zai l0 x3_1).f0), .string ((zai l0 x3_1).f1), .slice none 0 0, .slice none 0 0]) ?_ 2 _ rfl; (with_reducible repeat (first | refine zaI ?_ _ | refine zaM ?_ | refine zaH ?_ _)); refine zaO (cs := #[.string ((zai l0 x3_1).f0), .string (⟨#[]⟩ : ByteArray), .slice none 0 0, .slice none 0 0]) ?_ 1 _ rfl; (with_reducible repeat (first | refine zaI ?_ _ | refine zaM ?_ | refine zaH ?_ _)); refine zaO (cs := #[.string (⟨#[]⟩ : ByteArray), .string (⟨#[]⟩ : ByteArray), .slice none 0 0, .slice none 0 0]) ?_ 0 _ rfl; (with_reducible repeat (first | refine zaI ?_ _ | refine zaM ?_ | refine zaH ?_ _)); exact BK172.out⟩, ⟨by repeat (first | (with_reducible first | exact HB.out | apply zad | apply zac | apply zae | refine zau ?_ GE172.out) | exact HB.out)⟩⟩
           ·
            rw [if_neg c14] at H
            have c14b0 : decide (7 < (((zai l0 x3_1).f2).length : Int)) = false := decide_eq_false c14
            have c14b1 : decide (7 < ((zai l0 x3_1).f2).length) = false := decide_eq_false o9
            clear c14
            by_cases c16 : (((zai l0 x3_1).f3).length : Int) > 7
            ·
             rw [if_pos c16] at H
             have c16b0 : decide (7 < (((zai l0 x3_1).f3).length : Int)) = true := decide_eq_true c16
             have c16b1 : decide (7 < ((zai l0 x3_1).f3).length) = true := decide_eq_true o9
             clear c16
             have H' := zaa.mk H
             clear H
             have hcz17_0 : w8.cell? ⟨gb172, 0, none⟩ = some (.string (⟨#[]⟩ : ByteArray)) := (zaF BK172.out 0).trans rfl
             have hcz17_1 : w8.cell? ⟨gb172, 1, none⟩ = some (.string (⟨#[]⟩ : ByteArray)) := (zaF BK172.out 1).trans rfl
             have hcz17_2 : w8.cell? ⟨gb172, 2, none⟩ = some (.slice none 0 0) := (zaF BK172.out 2).trans rfl
             have hcz17_3 : w8.cell? ⟨gb172, 3, none⟩ = some (.slice none 0 0) := (zaF BK172.out 3).trans rfl
             have hfz17_0 := zat BK172.out 0
             have hfz17_1 := zat BK172.out 1
             have hfz17_2 := zat BK172.out 2
             have hfz17_3 := zat BK172.out 3
             go_wp2
             go_meet
             case rel => exact ⟨_, (true), (by first | rfl | (simp; done) | (simp [*]; done)), H', ⟨by have := HK1.out; have := HJ1.out; first | omega | exact Nat.le_refl _⟩, ⟨by (with_reducible repeat (first | refine zaI ?_ _ | refine zaM ?_ | refine zaH ?_ _)); refine zaO (cs := #[.string ((zai l0 x3_1).f0), .string ((zai l0 x3_1).f1), .slice A171_2 ((zai l0 x3_1).f2).length c171_2, .slice none 0 0]) ?_ 3 _ rfl; (with_reducible repeat (first | refine zaI ?_ _ | refine zaM ?_ | refine zaH ?_ _)); refine zaO (cs := #[.string ((zai l0 x3_1).f0), .string ((zai l0 x3_1).f1), .slice none 0 0, .slice none 0 0]) ?_ 2 _ rfl; (with_reducible repeat (first | refine zaI ?_ _ | refine zaM ?_ | refine zaH ?_ _)); refine zaO (cs := #[.string ((zai l0 x3_1).f0), .string (⟨#[]⟩ : ByteArray), .slice none 0 0, .slice none 0 0]) ?_ 1 _ rfl; (with_reducible repeat (first | refine zaI ?_ _ | refine zaM ?_ | refine zaH ?_ _)); refine zaO (cs := #[.string (⟨#[]⟩ : ByteArray), .string (⟨#[]⟩ : ByteArray), .slice none 0 0, .slice none 0 0]) ?_ 0 _ rfl; (with_reducible repeat (first | refine zaI ?_ _ | refine zaM ?_ | refine zaH ?_ _)); exact BK172.out⟩, ⟨by repeat (first | (with_reducible first | exact HB.out | apply zad | apply zac | apply zae | refine zau ?_ GE172.out) | exact HB.out)⟩⟩
            ·
             rw [if_neg c16] at H
             have c16b0 : decide (7 < (((zai l0 x3_1).f3).length : Int)) = false := decide_eq_false c16
             have c16b1 : decide (7 < ((zai l0 x3_1).f3).length) = false := decide_eq_false o9
             clear c16
             replace H := Option.bind_eq_some_iff.mp H
             obtain ⟨t173, A180, H⟩ := H
             replace H : (zaf.j2 kj1 l0 x3_1 t173 ((zai l0 x3_1).f0) ((zai l0 x3_1).f1) ((zai l0 x3_1).f2) ((zai l0 x3_1).f3)) = some r := H
             have A18 := zaa.mk A180
             clear A180
             have H' := zaa.mk H
             clear H
             have hcz19_0 : w8.cell? ⟨gb172, 0, none⟩ = some (.string (⟨#[]⟩ : ByteArray)) := (zaF BK172.out 0).trans rfl
             have hcz19_1 : w8.cell? ⟨gb172, 1, none⟩ = some (.string (⟨#[]⟩ : ByteArray)) := (zaF BK172.out 1).trans rfl
             have hcz19_2 : w8.cell? ⟨gb172, 2, none⟩ = some (.slice none 0 0) := (zaF BK172.out 2).trans rfl
             have hcz19_3 : w8.cell? ⟨gb172, 3, none⟩ = some (.slice none 0 0) := (zaF BK172.out 3).trans rfl
             have hfz19_0 := zat BK172.out 0
             have hfz19_1 := zat BK172.out 1
             have hfz19_2 := zat BK172.out 2
             have hfz19_3 := zat BK172.out 3
             go_wp2_with (first | (go_at_call 26; (with_reducible refine (zao.calls kj1 _ _ ((zai l0 x3_1).f2) t173 _ ?side1 ?side2 A18.out).mono ?_); (case side1 => exact Kd.zaw HR171_2.out (by repeat (first | (with_reducible first | exact HB.out | apply zad | apply zac | apply zae | refine zau ?_ GE172.out) | exact HB.out))); (case side2 => exact HC171_2.out); rintro e w' ⟨rfl, ⟨nd, rfl⟩⟩))
             go_meet
             case rel => exact ⟨_, (t173), (by first | rfl | (simp; done) | (simp [*]; done)), H', ⟨by have := HK1.out; have := HJ1.out; first | omega | exact Nat.le_refl _⟩, ⟨by (with_reducible repeat (first | refine zaI ?_ _ | refine zaM ?_ | refine zaH ?_ _)); refine zaO (cs := #[.string ((zai l0 x3_1).f0), .string ((zai l0 x3_1).f1), .slice A171_2 ((zai l0 x3_1).f2).length c171_2, .slice none 0 0]) ?_ 3 _ rfl; (with_reducible repeat (first | refine zaI ?_ _ | refine zaM ?_ | refine zaH ?_ _)); refine zaO (cs := #[.string ((zai l0 x3_1).f0), .string ((zai l0 x3_1).f1), .slice none 0 0, .slice none 0 0]) ?_ 2 _ rfl; (with_reducible repeat (first | refine zaI ?_ _ | refine zaM ?_ | refine zaH ?_ _)); refine zaO (cs := #[.string ((zai l0 x3_1).f0), .string (⟨#[]⟩ : ByteArray), .slice none 0 0, .slice none 0 0]) ?_ 1 _ rfl; (with_reducible repeat (first | refine zaI ?_ _ | refine zaM ?_ | refine zaH ?_ _)); refine zaO (cs := #[.string (⟨#[]⟩ : ByteArray), .string (⟨#[]⟩ : ByteArray), .slice none 0 0, .slice none 0 0]) ?_ 0 _ rfl; (with_reducible repeat (first | refine zaI ?_ _ | refine zaM ?_ | refine zaH ?_ _)); exact BK172.out⟩, ⟨by repeat (first | (with_reducible first | exact HB.out | apply zad | apply zac | apply zae | refine zau ?_ GE172.out) | exact HB.out)⟩⟩
        case rest =>
         clear HC7
         try clear c1
         try clear p1
         try clear q1
         try clear hx1
         try clear p2
         try clear c3
         try clear c3b0
         try clear c4
         try clear c5
         try clear c5b0
         try clear c6
         try clear c6b0
         try clear c10
         try clear c10b0
         try clear c10b1
         try clear c12
         try clear c12b0
         try clear c12b1
         try clear c14
         try clear c14b0
         try clear c14b1
         try clear c16
         try clear c16b0
         try clear c16b1
         try clear c17
         try clear p17
         try clear q17
         try clear hx17
         try clear hcz11_0
         try clear hcz11_1
         try clear hcz11_2
         try clear hcz11_3
         try clear hcz13_0
         try clear hcz13_1
         try clear hcz13_2
         try clear hcz13_3
         try clear hcz15_0
         try clear hcz15_1
         try clear hcz15_2
         try clear hcz15_3
         try clear hcz17_0
         try clear hcz17_1
         try clear hcz17_2
         try clear hcz17_3
         try clear hcz19_0
         try clear hcz19_1
         try clear hcz19_2
         try clear hcz19_3
         try clear hcz9_0
         try clear hcz9_1
         try clear hcz9_2
         try clear hcz9_3
         try clear hfz11_0
         try clear hfz11_1
         try clear hfz11_2
         try clear hfz11_3
         try clear hfz13_0
         try clear hfz13_1
         try clear hfz13_2
         try clear hfz13_3
         try clear hfz15_0
         try clear hfz15_1
         try clear hfz15_2
         try clear hfz15_3
         try clear hfz17_0
         try clear hfz17_1
         try clear hfz17_2
         try clear hfz17_3
         try clear hfz19_0
         try clear hfz19_1
         try clear hfz19_2
         try clear hfz19_3
         try clear hfz9_0
         try clear hfz9_1
         try clear hfz9_2
         try clear hfz9_3
         try clear hx171_0
         try clear hx171_1
         try clear hx171_2
         try clear hx171_3
         try clear p171
         try clear p2
         try clear q171
         obtain ⟨kq, x47_6, rfl, HA, HJ6, BK172, HB⟩ := hcut
         cases kq with
         | zero => exact absurd HA.out (by simp [zaf.j2])
         | succ kj6 =>
          have H := HA.out
          clear HA
          simp only [zaf.j2] at H
          by_cases c20 : x47_6 = true
          ·
           subst c20
           have H1 : (some true) = some r := by rw [if_pos rfl] at H; exact H
           clear H
           have H := H1
           clear H1
           obtain rfl := Option.some.inj H
           go_wp2
           go_ret
           exact ⟨by first | rfl | (simp [zaT, zaS] <;> rfl) | (simp [*, zaT, zaS] <;> rfl), by repeat (first | (with_reducible first | exact HB.out | apply zad | apply zac | apply zae | refine zau ?_ GE172.out) | exact HB.out)⟩
          ·
           replace c20 := Bool.eq_false_iff.mpr c20
           subst c20
           have H1 : (zaf.l1 kj6 l0 x3_1 0 ((zai l0 x3_1).f0) ((zai l0 x3_1).f1) ((zai l0 x3_1).f2) ((zai l0 x3_1).f3)) = some r := by rw [if_neg (show ¬ (false = true) by decide)] at H; exact H
           clear H
           have H := H1
           clear H1
           have H' := zaa.mk H
           clear H
           go_wp2
           go_loopg [5] kj6 (fun kq v5 w' => ∃ (x5_4 : Int), v5 = .int .i64 x5_4 ∧ zaa (zaf.l1 kq l0 x3_1 x5_4 ((zai l0 x3_1).f0) ((zai l0 x3_1).f1) ((zai l0 x3_1).f2) ((zai l0 x3_1).f3) = some r) ∧ zaa (kq ≤ kj6) ∧ zaa (w'.heap[gb172]? = some (.cells #[.string ((zai l0 x3_1).f0), .string ((zai l0 x3_1).f1), (.slice A171_2 ((zai l0 x3_1).f2).length c171_2), (.slice A171_3 ((zai l0 x3_1).f3).length c171_3)] 44 (0, 0))) ∧ zaa (Below w.heap.size w w'))
           case atStart => exact ⟨(0), (by first | rfl | (simp; done) | (simp [*]; done)), H', ⟨Nat.le_refl _⟩, ⟨by (with_reducible repeat (first | refine zaI ?_ _ | refine zaM ?_ | refine zaH ?_ _)); exact BK172.out⟩, ⟨by repeat (first | (with_reducible first | exact HB.out | apply zad | apply zac | apply zae | refine zau ?_ GE172.out) | exact HB.out)⟩⟩
           case round =>
            clear H'
            try clear c1
            try clear p1
            try clear q1
            try clear hx1
            try clear c2
            try clear p2
            try clear c3
            try clear c3b0
            try clear c4
            try clear c5
            try clear c5b0
            try clear c6
            try clear c6b0
            try clear c10
            try clear c10b0
            try clear c10b1
            try clear c12
            try clear c12b0
            try clear c12b1
            try clear c14
            try clear c14b0
            try clear c14b1
            try clear c16
            try clear c16b0
            try clear c16b1
            try clear c17
            try clear p17
            try clear q17
            try clear hx17
            try clear c20
            try clear hcz11_0
            try clear hcz11_1
            try clear hcz11_2
            try clear hcz11_3
            try clear hcz13_0
            try clear hcz13_1
            try clear hcz13_2
            try clear hcz13_3
            try clear hcz15_0
            try clear hcz15_1
            try clear hcz15_2
            try clear hcz15_3
            try clear hcz17_0
            try clear hcz17_1
            try clear hcz17_2
            try clear hcz17_3
            try clear hcz19_0
            try clear hcz19_1
            try clear hcz19_2
            try clear hcz19_3
            try clear hcz9_0
            try clear hcz9_1
            try clear hcz9_2
            try clear hcz9_3
            try clear hfz11_0
            try clear hfz11_1
            try clear hfz11_2
            try clear hfz11_3
            try clear hfz13_0
            try clear hfz13_1
            try clear hfz13_2
            try clear hfz13_3
            try clear hfz15_0
            try clear hfz15_1
            try clear hfz15_2
            try clear hfz15_3
            try clear hfz17_0
            try clear hfz17_1
            try clear hfz17_2
            try clear hfz17_3
            try clear hfz19_0
            try clear hfz19_1
            try clear hfz19_2
            try clear hfz19_3
            try clear hfz9_0
            try clear hfz9_1
            try clear hfz9_2
            try clear hfz9_3
            try clear hx171_0
            try clear hx171_1
            try clear hx171_2
            try clear hx171_3
            try clear p1
            try clear p17
            try clear p171
            try clear p2
            try clear q1
            try clear q17
            try clear q171
            obtain ⟨x5_4, rfl, HA, HK4, BK172, HB⟩ := hrel
            cases gk with
            | zero => exact absurd HA.out (by simp [zaf.l1])
            | succ k4 =>
             have H := HA.out
             clear HA
             simp only [zaf.l1] at H
             by_cases c21 : x5_4 < (((zai l0 x3_1).f3).length : Int)
             ·
              rw [if_pos c21] at H
              have c21b0 : decide (x5_4 < (((zai l0 x3_1).f3).length : Int)) = true := decide_eq_true c21
              clear c21
              by_cases c22 : 0 ≤ x5_4
              ·
               rw [if_pos c22] at H
               have c22b0 : decide (0 ≤ x5_4) = true := decide_eq_true c22
               clear c22
               by_cases c23 : (((zaV ((zai l0 x3_1).f3) x5_4).f0).size : Int) > 30
               ·
                rw [if_pos c23] at H
                have c23b0 : decide (30 < (((zaV ((zai l0 x3_1).f3) x5_4).f0).size : Int)) = true := decide_eq_true c23
                have c23b1 : decide (30 < ((zaV ((zai l0 x3_1).f3) x5_4).f0).size) = true := decide_eq_true o9
                clear c23
                obtain rfl := Option.some.inj H
                have hcz24_0 : wr.cell? ⟨gb172, 0, none⟩ = some (.string ((zai l0 x3_1).f0)) := (zaF BK172.out 0).trans rfl
                have hcz24_1 : wr.cell? ⟨gb172, 1, none⟩ = some (.string ((zai l0 x3_1).f1)) := (zaF BK172.out 1).trans rfl
                have hcz24_2 : wr.cell? ⟨gb172, 2, none⟩ = some (.slice A171_2 ((zai l0 x3_1).f2).length c171_2) := (zaF BK172.out 2).trans rfl
                have hcz24_3 : wr.cell? ⟨gb172, 3, none⟩ = some (.slice A171_3 ((zai l0 x3_1).f3).length c171_3) := (zaF BK172.out 3).trans rfl
                have hfz24_0 := zat BK172.out 0
                have hfz24_1 := zat BK172.out 1
                have hfz24_2 := zat BK172.out 2
                have hfz24_3 := zat BK172.out 3
                have p174 : 0 ≤ (x5_4 : Int) := of_decide_eq_true (by first | (with_reducible assumption) | assumption)
                have q174 : x5_4 < (((zai l0 x3_1).f3).length : Int) := of_decide_eq_true (by first | (with_reducible assumption) | assumption)
                obtain ⟨ad174, A174_1, c174_1, e174, hx174_0, hx174_1, hx174_2, hl174_1, hi174_1⟩ := zcx HR171_3.out x5_4 p174 q174
                cases e174
                replace hx174_0 := (HB.out.cell (World.block_lt_of_cell? w _ hx174_0)).trans hx174_0
                replace hx174_1 := (HB.out.cell (World.block_lt_of_cell? w _ hx174_1)).trans hx174_1
                replace hx174_2 := (HB.out.cell (World.block_lt_of_cell? w _ hx174_2)).trans hx174_2
                have HR174_1 := zaa.mk hi174_1
                have HC174_1 := zaa.mk hl174_1
                clear hi174_1 hl174_1
                replace p174 := eq_true p174
                replace q174 := eq_true q174
                go_wp2_with (first | ((with_reducible refine zbj (N := 6) rfl ?_); (try (refine zbN (by rfl) ?_; dsimp only)); refine zbG ?hg (N := 6) ?hd (cs := #[.string (⟨#[]⟩ : ByteArray), .slice none 0 0, .string (⟨#[]⟩ : ByteArray)]) (t := 57) ?hr ?_; (case hd => rfl); (case hg => rfl); (case hr => first | (go_simp; done) | (go_simp; rfl)); intro gb175 hg w25 hbox hb; have n0_ := zaa.mk (zb5 (g := gb172) (o := .cells #[.string ((zai l0 x3_1).f0), .string ((zai l0 x3_1).f1), .slice A171_2 ((zai l0 x3_1).f2).length c171_2, .slice (some ad174) ((zai l0 x3_1).f3).length c171_3] 44 (0, 0)) (by (with_reducible repeat (first | refine zaI ?_ _ | refine zaM ?_ | refine zaH ?_ _)); exact BK172.out) hb); have n1_ := zaa.mk (zal (by repeat (first | (with_reducible first | exact HB.out | apply zad | apply zac | apply zae | refine zau ?_ GE172.out) | exact HB.out)) hb); have n2_ := zaa.mk (hbox); have n3_ := zaa.mk ((by rw [hg]; exact (zaN (by repeat (first | (with_reducible first | exact HB.out | apply zad | apply zac | apply zae | refine zau ?_ GE172.out) | exact HB.out))) : w.heap.size ≤ gb175)); have n4_ := zaa.mk ((by rw [hg]; exact (zaN (by repeat (first | (with_reducible first | exact HB.out | apply zad | apply zac | apply zae | refine zau ?_ GE172.out) | exact HB.out))) : w.heap.size ≤ gb175)); have n5_ := zaa.mk ((by rw [hg]; exact Nat.ne_of_lt (zci (g := gb172) (o := .cells #[.string ((zai l0 x3_1).f0), .string ((zai l0 x3_1).f1), .slice A171_2 ((zai l0 x3_1).f2).length c171_2, .slice (some ad174) ((zai l0 x3_1).f3).length c171_3] 44 (0, 0)) (by (with_reducible repeat (first | refine zaI ?_ _ | refine zaM ?_ | refine zaH ?_ _)); exact BK172.out)) : gb172 ≠ gb175)); have n6_ := zaa.mk ((by rw [hg]; exact Nat.ne_of_gt (zci (g := gb172) (o := .cells #[.string ((zai l0 x3_1).f0), .string ((zai l0 x3_1).f1), .slice A171_2 ((zai l0 x3_1).f2).length c171_2, .slice (some ad174) ((zai l0 x3_1).f3).length c171_3] 44 (0, 0)) (by (with_reducible repeat (first | refine zaI ?_ _ | refine zaM ?_ | refine zaH ?_ _)); exact BK172.out)) : gb175 ≠ gb172)); clear BK172; clear HB; have BK172 := n0_; have HB := n1_; have BK175 := n2_; have GW175 := n3_; have GE175 := n4_; have NB172_175 := n5_; have NB175_172 := n6_; clear n0_ n1_ n2_ n3_ n4_ n5_ n6_; clear hb hbox hg; have hnb26 := NB175_172.out; have hnc26 := NB172_175.out; have hcz27_0 : w25.cell? ⟨gb175, 0, none⟩ = some (.string (⟨#[]⟩ : ByteArray)) := (zaF BK175.out 0).trans rfl; have hcz27_1 : w25.cell? ⟨gb175, 1, none⟩ = some (.slice none 0 0) := (zaF BK175.out 1).trans rfl; have hcz27_2 : w25.cell? ⟨gb175, 2, none⟩ = some (.string (⟨#[]⟩ : ByteArray)) := (zaF BK175.out 2).trans rfl; have hfz27_0 := zat BK175.out 0; have hfz27_1 := zat BK175.out 1; have hfz27_2 := zat BK175.out 2))
                go_ret
                exact ⟨by first | rfl | (simp [zaT, zaS] <;> rfl) | (simp [*, zaT, zaS] <;> rfl), by repeat (first | (with_reducible first | exact HB.out | apply zad | apply zac | apply zae | refine zau ?_ GE172.out | refine zau ?_ GE175.out) | exact HB.out)⟩
               ·
                rw [if_neg c23] at H
                have c23b0 : decide (30 < (((zaV ((zai l0 x3_1).f3) x5_4).f0).size : Int)) = false := decide_eq_false c23
                have c23b1 : decide (30 < ((zaV ((zai l0 x3_1).f3) x5_4).f0).size) = false := decide_eq_false o9
                clear c23
                by_cases c28 : (((zaV ((zai l0 x3_1).f3) x5_4).f2).size : Int) > 30
                ·
                 rw [if_pos c28] at H
                 have c28b0 : decide (30 < (((zaV ((zai l0 x3_1).f3) x5_4).f2).size : Int)) = true := decide_eq_true c28
                 have c28b1 : decide (30 < ((zaV ((zai l0 x3_1).f3) x5_4).f2).size) = true := decide_eq_true o9
                 clear c28
                 obtain rfl := Option.some.inj H
                 have hcz29_0 : wr.cell? ⟨gb172, 0, none⟩ = some (.string ((zai l0 x3_1).f0)) := (zaF BK172.out 0).trans rfl
                 have hcz29_1 : wr.cell? ⟨gb172, 1, none⟩ = some (.string ((zai l0 x3_1).f1)) := (zaF BK172.out 1).trans rfl
                 have hcz29_2 : wr.cell? ⟨gb172, 2, none⟩ = some (.slice A171_2 ((zai l0 x3_1).f2).length c171_2) := (zaF BK172.out 2).trans rfl
                 have hcz29_3 : wr.cell? ⟨gb172, 3, none⟩ = some (.slice A171_3 ((zai l0 x3_1).f3).length c171_3) := (zaF BK172.out 3).trans rfl
                 have hfz29_0 := zat BK172.out 0
                 have hfz29_1 := zat BK172.out 1
                 have hfz29_2 := zat BK172.out 2
                 have hfz29_3 := zat BK172.out 3
                 have p174 : 0 ≤ (x5_4 : Int) := of_decide_eq_true (by first | (with_reducible assumption) | assumption)
                 have q174 : x5_4 < (((zai l0 x3_1).f3).length : Int) := of_decide_eq_true (by first | (with_reducible assumption) | assumption)
                 obtain ⟨ad174, A174_1, c174_1, e174, hx174_0, hx174_1, hx174_2, hl174_1, hi174_1⟩ := zcx HR171_3.out x5_4 p174 q174
                 cases e174
                 replace hx174_0 := (HB.out.cell (World.block_lt_of_cell? w _ hx174_0)).trans hx174_0
                 replace hx174_1 := (HB.out.cell (World.block_lt_of_cell? w _ hx174_1)).trans hx174_1
                 replace hx174_2 := (HB.out.cell (World.block_lt_of_cell? w _ hx174_2)).trans hx174_2
                 have HR174_1 := zaa.mk hi174_1
                 have HC174_1 := zaa.mk hl174_1
                 clear hi174_1 hl174_1
                 replace p174 := eq_true p174
                 replace q174 := eq_true q174
                 go_wp2_with (first | ((with_reducible refine zbj (N := 6) rfl ?_); (try (refine zbN (by rfl) ?_; dsimp only)); refine zbG ?hg (N := 6) ?hd (cs := #[.string (⟨#[]⟩ : ByteArray), .slice none 0 0, .string (⟨#[]⟩ : ByteArray)]) (t := 57) ?hr ?_; (case hd => rfl); (case hg => rfl); (case hr => first | (go_simp; done) | (go_simp; rfl)); intro gb175 hg w30 hbox hb; have n0_ := zaa.mk (zb5 (g := gb172) (o := .cells #[.string ((zai l0 x3_1).f0), .string ((zai l0 x3_1).f1), .slice A171_2 ((zai l0 x3_1).f2).length c171_2, .slice (some ad174) ((zai l0 x3_1).f3).length c171_3] 44 (0, 0)) (by (with_reducible repeat (first | refine zaI ?_ _ | refine zaM ?_ | refine zaH ?_ _)); exact BK172.out) hb); have n1_ := zaa.mk (zal (by repeat (first | (with_reducible first | exact HB.out | apply zad | apply zac | apply zae | refine zau ?_ GE172.out) | exact HB.out)) hb); have n2_ := zaa.mk (hbox); have n3_ := zaa.mk ((by rw [hg]; exact (zaN (by repeat (first | (with_reducible first | exact HB.out | apply zad | apply zac | apply zae | refine zau ?_ GE172.out) | exact HB.out))) : w.heap.size ≤ gb175)); have n4_ := zaa.mk ((by rw [hg]; exact (zaN (by repeat (first | (with_reducible first | exact HB.out | apply zad | apply zac | apply zae | refine zau ?_ GE172.out) | exact HB.out))) : w.heap.size ≤ gb175)); have n5_ := zaa.mk ((by rw [hg]; exact Nat.ne_of_lt (zci (g := gb172) (o := .cells #[.string ((zai l0 x3_1).f0), .string ((zai l0 x3_1).f1), .slice A171_2 ((zai l0 x3_1).f2).length c171_2, .slice (some ad174) ((zai l0 x3_1).f3).length c171_3] 44 (0, 0)) (by (with_reducible repeat (first | refine zaI ?_ _ | refine zaM ?_ | refine zaH ?_ _)); exact BK172.out)) : gb172 ≠ gb175)); have n6_ := zaa.mk ((by rw [hg]; exact Nat.ne_of_gt (zci (g := gb172) (o := .cells #[.string ((zai l0 x3_1).f0), .string ((zai l0 x3_1).f1), .slice A171_2 ((zai l0 x3_1).f2).length c171_2, .slice (some ad174) ((zai l0 x3_1).f3).length c171_3] 44 (0, 0)) (by (with_reducible repeat (first | refine zaI ?_ _ | refine zaM ?_ | refine zaH ?_ _)); exact BK172.out)) : gb175 ≠ gb172)); clear BK172; clear HB; have BK172 := n0_; have HB := n1_; have BK175 := n2_; have GW175 := n3_; have GE175 := n4_; have NB172_175 := n5_; have NB175_172 := n6_; clear n0_ n1_ n2_ n3_ n4_ n5_ n6_; clear hb hbox hg; have hnb31 := NB175_172.out; have hnc31 := NB172_175.out; have hcz32_0 : w30.cell? ⟨gb175, 0, none⟩ = some (.string (⟨#[]⟩ : ByteArray)) := (zaF BK175.out 0).trans rfl; have hcz32_1 : w30.cell? ⟨gb175, 1, none⟩ = some (.slice none 0 0) := (zaF BK175.out 1).trans rfl; have hcz32_2 : w30.cell? ⟨gb175, 2, none⟩ = some (.string (⟨#[]⟩ : ByteArray)) := (zaF BK175.out 2).trans rfl; have hfz32_0 := zat BK175.out 0; have hfz32_1 := zat BK175.out 1; have hfz32_2 := zat BK175.out 2))
                 go_ret
                 exact ⟨by first | rfl | (simp [zaT, zaS] <;> rfl) | (simp [*, zaT, zaS] <;> rfl), by repeat (first | (with_reducible first | exact HB.out | apply zad | apply zac | apply zae | refine zau ?_ GE172.out | refine zau ?_ GE175.out) | exact HB.out)⟩
                ·
                 rw [if_neg c28] at H
                 have c28b0 : decide (30 < (((zaV ((zai l0 x3_1).f3) x5_4).f2).size : Int)) = false := decide_eq_false c28
                 have c28b1 : decide (30 < ((zaV ((zai l0 x3_1).f3) x5_4).f2).size) = false := decide_eq_false o9
                 clear c28
                 by_cases c33 : (((zaV ((zai l0 x3_1).f3) x5_4).f1).length : Int) > 10
                 ·
                  rw [if_pos c33] at H
                  have c33b0 : decide (10 < (((zaV ((zai l0 x3_1).f3) x5_4).f1).length : Int)) = true := decide_eq_true c33
                  have c33b1 : decide (10 < ((zaV ((zai l0 x3_1).f3) x5_4).f1).length) = true := decide_eq_true o9
                  clear c33
                  obtain rfl := Option.some.inj H
                  have hcz34_0 : wr.cell? ⟨gb172, 0, none⟩ = some (.string ((zai l0 x3_1).f0)) := (zaF BK172.out 0).trans rfl
                  have hcz34_1 : wr.cell? ⟨gb172, 1, none⟩ = some (.string ((zai l0 x3_1).f1)) := (zaF BK172.out 1).trans rfl
                  have hcz34_2 : wr.cell? ⟨gb172, 2, none⟩ = some (.slice A171_2 ((zai l0 x3_1).f2).length c171_2) := (zaF BK172.out 2).trans rfl
                  have hcz34_3 : wr.cell? ⟨gb172, 3, none⟩ = some (.slice A171_3 ((zai l0 x3_1).f3).length c171_3) := (zaF BK172.out 3).trans rfl
                  have hfz34_0 := zat BK172.out 0
                  have hfz34_1 := zat BK172.out 1
                  have hfz34_2 := zat BK172.out 2
                  have hfz34_3 := zat BK172.out 3
                  have p174 : 0 ≤ (x5_4 : Int) := of_decide_eq_true (by first | (with_reducible assumption) | assumption)
                  have q174 : x5_4 < (((zai l0 x3_1).f3).length : Int) := of_decide_eq_true (by first | (with_reducible assumption) | assumption)
                  obtain ⟨ad174, A174_1, c174_1, e174, hx174_0, hx174_1, hx174_2, hl174_1, hi174_1⟩ := zcx HR171_3.out x5_4 p174 q174
                  cases e174
                  replace hx174_0 := (HB.out.cell (World.block_lt_of_cell? w _ hx174_0)).trans hx174_0
                  replace hx174_1 := (HB.out.cell (World.block_lt_of_cell? w _ hx174_1)).trans hx174_1
                  replace hx174_2 := (HB.out.cell (World.block_lt_of_cell? w _ hx174_2)).trans hx174_2
                  have HR174_1 := zaa.mk hi174_1
                  have HC174_1 := zaa.mk hl174_1
                  clear hi174_1 hl174_1
                  replace p174 := eq_true p174
                  replace q174 := eq_true q174
                  go_wp2_with (first | ((with_reducible refine zbj (N := 6) rfl ?_); (try (refine zbN (by rfl) ?_; dsimp only)); refine zbG ?hg (N := 6) ?hd (cs := #[.string (⟨#[]⟩ : ByteArray), .slice none 0 0, .string (⟨#[]⟩ : ByteArray)]) (t := 57) ?hr ?_; (case hd => rfl); (case hg => rfl); (case hr => first | (go_simp; done) | (go_simp; rfl)); intro gb175 hg w35 hbox hb; have n0_ := zaa.mk (zb5 (g := gb172) (o := .cells #[.string ((zai l0 x3_1).f0), .string ((zai l0 x3_1).f1), .slice A171_2 ((zai l0 x3_1).f2).length c171_2, .slice (some ad174) ((zai l0 x3_1).f3).length c171_3] 44 (0, 0)) (by (with_reducible repeat (first | refine zaI ?_ _ | refine zaM ?_ | refine zaH ?_ _)); exact BK172.out) hb); have n1_ := zaa.mk (zal (by repeat (first | (with_reducible first | exact HB.out | apply zad | apply zac | apply zae | refine zau ?_ GE172.out) | exact HB.out)) hb); have n2_ := zaa.mk (hbox); have n3_ := zaa.mk ((by rw [hg]; exact (zaN (by repeat (first | (with_reducible first | exact HB.out | apply zad | apply zac | apply zae | refine zau ?_ GE172.out) | exact HB.out))) : w.heap.size ≤ gb175)); have n4_ := zaa.mk ((by rw [hg]; exact (zaN (by repeat (first | (with_reducible first | exact HB.out | apply zad | apply zac | apply zae | refine zau ?_ GE172.out) | exact HB.out))) : w.heap.size ≤ gb175)); have n5_ := zaa.mk ((by rw [hg]; exact Nat.ne_of_lt (zci (g := gb172) (o := .cells #[.string ((zai l0 x3_1).f0), .string ((zai l0 x3_1).f1), .slice A171_2 ((zai l0 x3_1).f2).length c171_2, .slice (some ad174) ((zai l0 x3_1).f3).length c171_3] 44 (0, 0)) (by (with_reducible repeat (first | refine zaI ?_ _ | refine zaM ?_ | refine zaH ?_ _)); exact BK172.out)) : gb172 ≠ gb175)); have n6_ := zaa.mk ((by rw [hg]; exact Nat.ne_of_gt (zci (g := gb172) (o := .cells #[.string ((zai l0 x3_1).f0), .string ((zai l0 x3_1).f1), .slice A171_2 ((zai l0 x3_1).f2).length c171_2, .slice (some ad174) ((zai l0 x3_1).f3).length c171_3] 44 (0, 0)) (by (with_reducible repeat (first | refine zaI ?_ _ | refine zaM ?_ | refine zaH ?_ _)); exact BK172.out)) : gb175 ≠ gb172)); clear BK172; clear HB; have BK172 := n0_; have HB := n1_; have BK175 := n2_; have GW175 := n3_; have GE175 := n4_; have NB172_175 := n5_; have NB175_172 := n6_; clear n0_ n1_ n2_ n3_ n4_ n5_ n6_; clear hb hbox hg; have hnb36 := NB175_172.out; have hnc36 := NB172_175.out; have hcz37_0 : w35.cell? ⟨gb175, 0, none⟩ = some (.string (⟨#[]⟩ : ByteArray)) := (zaF BK175.out 0).trans rfl; have hcz37_1 : w35.cell? ⟨gb175, 1, none⟩ = some (.slice none 0 0) := (zaF BK175.out 1).trans rfl; have hcz37_2 : w35.cell? ⟨gb175, 2, none⟩ = some (.string (⟨#[]⟩ : ByteArray)) := (zaF BK175.out 2).trans rfl; have hfz37_0 := zat BK175.out 0; have hfz37_1 := zat BK175.out 1; have hfz37_2 := zat BK175.out 2))
                  go_ret
                  exact ⟨by first | rfl | (simp [zaT, zaS] <;> rfl) | (simp [*, zaT, zaS] <;> rfl), by repeat (first | (with_reducible first | exact HB.out | apply zad | apply zac | apply zae | refine zau ?_ GE172.out | refine zau ?_ GE175.out) | exact HB.out)⟩
                 ·
                  rw [if_neg c33] at H
                  have c33b0 : decide (10 < (((zaV ((zai l0 x3_1).f3) x5_4).f1).length : Int)) = false := decide_eq_false c33
                  have c33b1 : decide (10 < ((zaV ((zai l0 x3_1).f3) x5_4).f1).length) = false := decide_eq_false o9
                  clear c33
                  replace H := Option.bind_eq_some_iff.mp H
                  obtain ⟨t176, A380, H⟩ := H
                  replace H : (if t176 = true then (some true) else (zaf.l1 k4 l0 x3_1 (wrap64 (x5_4 + 1)) ((zai l0 x3_1).f0) ((zai l0 x3_1).f1) ((zai l0 x3_1).f2) ((zai l0 x3_1).f3))) = some r := H
                  have A38 := zaa.mk A380
                  clear A380
                  by_cases c39 : t176 = true
                  ·
                   subst c39
                   have H1 : (some true) = some r := by rw [if_pos rfl] at H; exact H
                   clear H
                   have H := H1
                   clear H1
                   obtain rfl := Option.some.inj H
                   have hcz40_0 : wr.cell? ⟨gb172, 0, none⟩ = some (.string ((zai l0 x3_1).f0)) := (zaF BK172.out 0).trans rfl
                   have hcz40_1 : wr.cell? ⟨gb172, 1, none⟩ = some (.string ((zai l0 x3_1).f1)) := (zaF BK172.out 1).trans rfl
                   have hcz40_2 : wr.cell? ⟨gb172, 2, none⟩ = some (.slice A171_2 ((zai l0 x3_1).f2).length c171_2) := (zaF BK172.out 2).trans rfl
                   have hcz40_3 : wr.cell? ⟨gb172, 3, none⟩ = some (.slice A171_3 ((zai l0 x3_1).f3).length c171_3) := (zaF BK172.out 3).trans rfl
                   have hfz40_0 := zat BK172.out 0
                   have hfz40_1 := zat BK172.out 1
                   have hfz40_2 := zat BK172.out 2
                   have hfz40_3 := zat BK172.out 3
                   have p174 : 0 ≤ (x5_4 : Int) := of_decide_eq_true (by first | (with_reducible assumption) | assumption)
                   have q174 : x5_4 < (((zai l0 x3_1).f3).length : Int) := of_decide_eq_true (by first | (with_reducible assumption) | assumption)
                   obtain ⟨ad174, A174_1, c174_1, e174, hx174_0, hx174_1, hx174_2, hl174_1, hi174_1⟩ := zcx HR171_3.out x5_4 p174 q174
                   cases e174
                   replace hx174_0 := (HB.out.cell (World.block_lt_of_cell? w _ hx174_0)).trans hx174_0
                   replace hx174_1 := (HB.out.cell (World.block_lt_of_cell? w _ hx174_1)).trans hx174_1
                   replace hx174_2 := (HB.out.cell (World.block_lt_of_cell? w _ hx174_2)).trans hx174_2
                   have HR174_1 := zaa.mk hi174_1
                   have HC174_1 := zaa.mk hl174_1
                   clear hi174_1 hl174_1
                   replace p174 := eq_true p174
                   replace q174 := eq_true q174
                   go_wp2_with (first | ((with_reducible refine zbj (N := 6) rfl ?_); (try (refine zbN (by rfl) ?_; dsimp only)); refine zbG ?hg (N := 6) ?hd (cs := #[.string (⟨#[]⟩ : ByteArray), .slice none 0 0, .string (⟨#[]⟩ : ByteArray)]) (t := 57) ?hr ?_; (case hd => rfl); (case hg => rfl); (case hr => first | (go_simp; done) | (go_simp; rfl)); intro gb175 hg w41 hbox hb; have n0_ := zaa.mk (zb5 (g := gb172) (o := .cells #[.string ((zai l0 x3_1).f0), .string ((zai l0 x3_1).f1), .slice A171_2 ((zai l0 x3_1).f2).length c171_2, .slice (some ad174) ((zai l0 x3_1).f3).length c171_3] 44 (0, 0)) (by (with_reducible repeat (first | refine zaI ?_ _ | refine zaM ?_ | refine zaH ?_ _)); exact BK172.out) hb); have n1_ := zaa.mk (zal (by repeat (first | (with_reducible first | exact HB.out | apply zad | apply zac | apply zae | refine zau ?_ GE172.out) | exact HB.out)) hb); have n2_ := zaa.mk (hbox); have n3_ := zaa.mk ((by rw [hg]; exact (zaN (by repeat (first | (with_reducible first | exact HB.out | apply zad | apply zac | apply zae | refine zau ?_ GE172.out) | exact HB.out))) : w.heap.size ≤ gb175)); have n4_ := zaa.mk ((by rw [hg]; exact (zaN (by repeat (first | (with_reducible first | exact HB.out | apply zad | apply zac | apply zae | refine zau ?_ GE172.out) | exact HB.out))) : w.heap.size ≤ gb175)); have n5_ := zaa.mk ((by rw [hg]; exact Nat.ne_of_lt (zci (g := gb172) (o := .cells #[.string ((zai l0 x3_1).f0), .string ((zai l0 x3_1).f1), .slice A171_2 ((zai l0 x3_1).f2).length c171_2, .slice (some ad174) ((zai l0 x3_1).f3).length c171_3] 44 (0, 0)) (by (with_reducible repeat (first | refine zaI ?_ _ | refine zaM ?_ | refine zaH ?_ _)); exact BK172.out)) : gb172 ≠ gb175)); have n6_ := zaa.mk ((by rw [hg]; exact Nat.ne_of_gt (zci (g := gb172) (o := .cells #[.string ((zai l0 x3_1).f0), .string ((zai l0 x3_1).f1), .slice A171_2 ((zai l0 x3_1).f2).length c171_2, .slice (some ad174) ((zai l0 x3_1).f3).length c171_3] 44 (0, 0)) (by (with_reducible repeat (first | refine zaI ?_ _ | refine zaM ?_ | refine zaH ?_ _)); exact BK172.out)) : gb175 ≠ gb172)); clear BK172; clear HB; have BK172 := n0_; have HB := n1_; have BK175 := n2_; have GW175 := n3_; have GE175 := n4_; have NB172_175 := n5_; have NB175_172 := n6_; clear n0_ n1_ n2_ n3_ n4_ n5_ n6_; clear hb hbox hg; have hnb42 := NB175_172.out; have hnc42 := NB172_175.out; have hcz43_0 : w41.cell? ⟨gb175, 0, none⟩ = some (.string (⟨#[]⟩ : ByteArray)) := (zaF BK175.out 0).trans rfl; have hcz43_1 : w41.cell? ⟨gb175, 1, none⟩ = some (.slice none 0 0) := (zaF BK175.out 1).trans rfl; have hcz43_2 : w41.cell? ⟨gb175, 2, none⟩ = some (.string (⟨#[]⟩ : ByteArray)) := (zaF BK175.out 2).trans rfl; have hfz43_0 := zat BK175.out 0; have hfz43_1 := zat BK175.out 1; have hfz43_2 := zat BK175.out 2) | (go_at_call 26; (with_reducible refine (zao.calls k4 _ _ ((zaV ((zai l0 x3_1).f3) x5_4).f1) true _ ?side1 ?side2 A38.out).mono ?_); (case side1 => exact Kd.zaw HR174_1.out (by repeat (first | (with_reducible first | exact HB.out | apply zad | apply zac | apply zae | refine zau ?_ GE172.out | refine zau ?_ GE175.out) | exact HB.out))); (case side2 => exact HC174_1.out); rintro e w' ⟨rfl, ⟨nd, rfl⟩⟩))
                   go_ret
                   exact ⟨by first | rfl | (simp [zaT, zaS] <;> rfl) | (simp [*, zaT, zaS] <;> rfl), by repeat (first | (with_reducible first | exact HB.out | apply zad | apply zac | apply zae | refine zau ?_ GE172.out | refine zau ?_ GE175.out) | exact HB.out)⟩
                  ·
                   replace c39 := Bool.eq_false_iff.mpr c39
                   subst c39
                   have H1 : (zaf.l1 k4 l0 x3_1 (wrap64 (x5_4 + 1)) ((zai l0 x3_1).f0) ((zai l0 x3_1).f1) ((zai l0 x3_1).f2) ((zai l0 x3_1).f3)) = some r := by rw [if_neg (show ¬ (false = true) by decide)] at H; exact H
                   clear H
                   have H := H1
                   clear H1
                   have H' := zaa.mk H
                   clear H
                   have hcz44_0 : wr.cell? ⟨gb172, 0, none⟩ = some (.string ((zai l0 x3_1).f0)) := (zaF BK172.out 0).trans rfl
                   have hcz44_1 : wr.cell? ⟨gb172, 1, none⟩ = some (.string ((zai l0 x3_1).f1)) := (zaF BK172.out 1).trans rfl
                   have hcz44_2 : wr.cell? ⟨gb172, 2, none⟩ = some (.slice A171_2 ((zai l0 x3_1).f2).length c171_2) := (zaF BK172.out 2).trans rfl
                   have hcz44_3 : wr.cell? ⟨gb172, 3, none⟩ = some (.slice A171_3 ((zai l0 x3_1).f3).length c171_3) := (zaF BK172.out 3).trans rfl
                   have hfz44_0 := zat BK172.out 0
                   have hfz44_1 := zat BK172.out 1
                   have hfz44_2 := zat BK172.out 2
                   have hfz44_3 := zat BK172.out 3
                   have p174 : 0 ≤ (x5_4 : Int) := of_decide_eq_true (by first | (with_reducible assumption) | assumption)
                   have q174 : x5_4 < (((zai l0 x3_1).f3).length : Int) := of_decide_eq_true (by first | (with_reducible assumption) | assumption)
                   obtain ⟨ad174, A174_1, c174_1, e174, hx174_0, hx174_1, hx174_2, hl174_1, hi174_1⟩ := zcx HR171_3.out x5_4 p174 q174
                   cases e174
                   replace hx174_0 := (HB.out.cell (World.block_lt_of_cell? w _ hx174_0)).trans hx174_0
                   replace hx174_1 := (HB.out.cell (World.block_lt_of_cell? w _ hx174_1)).trans hx174_1
                   replace hx174_2 := (HB.out.cell (World.block_lt_of_cell? w _ hx174_2)).trans hx174_2
                   have HR174_1 := zaa.mk hi174_1
                   have HC174_1 := zaa.mk hl174_1
                   clear hi174_1 hl174_1
                   replace p174 := eq_true p174
                   replace q174 := eq_true q174
                   go_wp2_with (first | ((with_reducible refine zbj (N := 6) rfl ?_); (try (refine zbN (by rfl) ?_; dsimp only)); refine zbG ?hg (N := 6) ?hd (cs := #[.string (⟨#[]⟩ : ByteArray), .slice none 0 0, .string (⟨#[]⟩ : ByteArray)]) (t := 57) ?hr ?_; (case hd => rfl); (case hg => rfl); (case hr => first | (go_simp; done) | (go_simp; rfl)); intro gb175 hg w45 hbox hb; have n0_ := zaa.mk (zb5 (g := gb172) (o := .cells #[.string ((zai l0 x3_1).f0), .string ((zai l0 x3_1).f1), .slice A171_2 ((zai l0 x3_1).f2).length c171_2, .slice (some ad174) ((zai l0 x3_1).f3).length c171_3] 44 (0, 0)) (by (with_reducible repeat (first | refine zaI ?_ _ | refine zaM ?_ | refine zaH ?_ _)); exact BK172.out) hb); have n1_ := zaa.mk (zal (by repeat (first | (with_reducible first | exact HB.out | apply zad | apply zac | apply zae | refine zau ?_ GE172.out) | exact HB.out)) hb); have n2_ := zaa.mk (hbox); have n3_ := zaa.mk ((by rw [hg]; exact (zaN (by repeat (first | (with_reducible first | exact HB.out | apply zad | apply zac | apply zae | refine zau ?_ GE172.out) | exact HB.out))) : w.heap.size ≤ gb175)); have n4_ := zaa.mk ((by rw [hg]; exact (zaN (by repeat (first | (with_reducible first | exact HB.out | apply zad | apply zac | apply zae | refine zau ?_ GE172.out) | exact HB.out))) : w.heap.size ≤ gb175)); have n5_ := zaa.mk ((by rw [hg]; exact Nat.ne_of_lt (zci (g := gb172) (o := .cells #[.string ((zai l0 x3_1).f0), .string ((zai l0 x3_1).f1), .slice A171_2 ((zai l0 x3_1).f2).length c171_2, .slice (some ad174) ((zai l0 x3_1).f3).length c171_3] 44 (0, 0)) (by (with_reducible repeat (first | refine zaI ?_ _ | refine zaM ?_ | refine zaH ?_ _)); exact BK172.out)) : gb172 ≠ gb175)); have n6_ := zaa.mk ((by rw [hg]; exact Nat.ne_of_gt (zci (g := gb172) (o := .cells #[.string ((zai l0 x3_1).f0), .string ((zai l0 x3_1).f1), .slice A171_2 ((zai l0 x3_1).f2).length c171_2, .slice (some ad174) ((zai l0 x3_1).f3).length c171_3] 44 (0, 0)) (by (with_reducible repeat (first | refine zaI ?_ _ | refine zaM ?_ | refine zaH ?_ _)); exact BK172.out)) : gb175 ≠ gb172)); clear BK172; clear HB; have BK172 := n0_; have HB := n1_; have BK175 := n2_; have GW175 := n3_; have GE175 := n4_; have NB172_175 := n5_; have NB175_172 := n6_; clear n0_ n1_ n2_ n3_ n4_ n5_ n6_; clear hb hbox hg; have hnb46 := NB175_172.out; have hnc46 := NB172_175.out; have hcz47_0 : w45.cell? ⟨gb175, 0, none⟩ = some (.string (⟨#[]⟩ : ByteArray)) := (zaF BK175.out 0).trans rfl; have hcz47_1 : w45.cell? ⟨gb175, 1, none⟩ = some (.slice none 0 0) := (zaF BK175.out 1).trans rfl; have hcz47_2 : w45.cell? ⟨gb175, 2, none⟩ = some (.string (⟨#[]⟩ : ByteArray)) := (zaF BK175.out 2).trans rfl; have hfz47_0 := zat BK175.out 0; have hfz47_1 := zat BK175.out 1; have hfz47_2 := zat BK175.out 2) | (go_at_call 26; (with_reducible refine (zao.calls k4 _ _ ((zaV ((zai l0 x3_1).f3) x5_4).f1) false _ ?side1 ?side2 A38.out).mono ?_); (case side1 => exact Kd.zaw HR174_1.out (by repeat (first | (with_reducible first | exact HB.out | apply zad | apply zac | apply zae | refine zau ?_ GE172.out | refine zau ?_ GE175.out) | exact HB.out))); (case side2 => exact HC174_1.out); rintro e w' ⟨rfl, ⟨nd, rfl⟩⟩))
                   go_roundg k4
                   case measure => have := HK1.out; have := HJ1.out; have := HJ6.out; have := HK4.out; omega
                   case rel => exact ⟨(wrap64 (x5_4 + 1)), (by first | rfl | (simp; done) | (simp [*]; done)), H', ⟨by have := HK1.out; have := HJ1.out; have := HJ6.out; have := HK4.out; omega⟩, ⟨by (with_reducible repeat (first | refine zaI ?_ _ | refine zaM ?_ | refine zaH ?_ _)); refine zeZ ?_ NB172_175.out _; (with_reducible repeat (first | refine zaI ?_ _ | refine zaM ?_ | refine zaH ?_ _)); refine zeZ ?_ NB172_175.out _; (with_reducible repeat (first | refine zaI ?_ _ | refine zaM ?_ | refine zaH ?_ _)); refine zeZ ?_ NB172_175.out _; (with_reducible repeat (first | refine zaI ?_ _ | refine zaM ?_ | refine zaH ?_ _)); exact BK172.out⟩, ⟨by repeat (first | (with_reducible first | exact HB.out | apply zad | apply zac | apply zae | refine zau ?_ GE172.out | refine zau ?_ GE175.out) | exact HB.out)⟩⟩
              ·
               rw [if_neg c22] at H
               exact absurd H s9
             ·
              rw [if_neg c21] at H
              have c21b0 : decide (x5_4 < (((zai l0 x3_1).f3).length : Int)) = false := decide_eq_false c21
              clear c21
              have H' := zaa.mk H
              clear H
              have hcz48_0 : wr.cell? ⟨gb172, 0, none⟩ = some (.string ((zai l0 x3_1).f0)) := (zaF BK172.out 0).trans rfl
              have hcz48_1 : wr.cell? ⟨gb172, 1, none⟩ = some (.string ((zai l0 x3_1).f1)) := (zaF BK172.out 1).trans rfl
              have hcz48_2 : wr.cell? ⟨gb172, 2, none⟩ = some (.slice A171_2 ((zai l0 x3_1).f2).length c171_2) := (zaF BK172.out 2).trans rfl
              have hcz48_3 : wr.cell? ⟨gb172, 3, none⟩ = some (.slice A171_3 ((zai l0 x3_1).f3).length c171_3) := (zaF BK172.out 3).trans rfl
              have hfz48_0 := zat BK172.out 0
              have hfz48_1 := zat BK172.out 1
              have hfz48_2 := zat BK172.out 2
              have hfz48_3 := zat BK172.out 3
              go_wp2
              go_roundg k4
              case measure => have := HK1.out; have := HJ1.out; have := HJ6.out; have := HK4.out; omega
              case rel => exact ⟨(wrap64 (x3_1 + 1)), (by first | rfl | (simp; done) | (simp [*]; done)), H', ⟨by have := HK1.out; have := HJ1.out; have := HJ6.out; have := HK4.out; omega⟩, ⟨by repeat (first | (with_reducible first | exact HB.out | apply zad | apply zac | apply zae | refine zau ?_ GE172.out) | exact HB.out)⟩⟩
       ·
        rw [if_neg c6] at H
        exact absurd H s9
      ·
       rw [if_neg c5] at H
       exact absurd H s9
     ·
      replace c4 := Bool.eq_false_iff.mpr c4
      subst c4
      have H1 : (some (decide ((l0.length : Int) > 9))) = some r := by rw [if_neg (show ¬ (false = true) by decide)] at H; exact H
      clear H
      have H := H1
      clear H1
      obtain rfl := Option.some.inj H
      go_wp2
      go_ret
      exact ⟨by first | rfl | (simp [zaT, zaS] <;> rfl) | (simp [*, zaT, zaS] <;> rfl), by repeat (first | (with_reducible first | exact HB.out | apply zad | apply zac | apply zae) | exact HB.out)⟩
def zar.l0 : Nat → List (S44) → List ByteArray → Int → Option (List ByteArray)
 | 0, _, _, _ => none
 | k + 1, x0, x3, x4 => if x4 < (x0.length : Int) then (if 0 ≤ x4 then (if x3.length < 8796093022208 then (zar.l0 k x0 (x3 ++ [(zai x0 x4).f0]) (wrap64 (x4 + 1))) else (none)) else (none)) else (some x3)
def zar.f (k : Nat) (l0 : List (S44)) : Option (List ByteArray) := zar.l0 k l0 (([(⟨#[105, 110, 116]⟩ : ByteArray), (⟨#[114, 101, 97, 108]⟩ : ByteArray), (⟨#[98, 111, 111, 108]⟩ : ByteArray), (⟨#[115, 116, 114]⟩ : ByteArray), (⟨#[117, 110, 105, 116]⟩ : ByteArray), (⟨#[63]⟩ : ByteArray)] : List ByteArray)) 0
theorem zar.zbF : ∀ k, (∀ y0 y1 y2, LeO (zar.l0 k y0 y1 y2) (zar.l0 (k + 1) y0 y1 y2))
 | 0 => fun _ _ _ r h => by simp [zar.l0] at h
 | k + 1 => by
  have ih0 := zar.zbF k
  ·
   intro y0 y1 y2
   unfold zar.l0
   repeat' first
   | (with_reducible exact ih0 _ _ _)
   | (with_reducible exact LeO.refl _)
   | (with_reducible exact LeO.none _)
   | (with_reducible refine LeO.ite ?_ ?_)
   | (with_reducible refine LeO.bind ?_ (fun _ => ?_))
   | exact ih0 _ _ _
   | exact LeO.none _
   | refine LeO.ite ?_ ?_
   | refine LeO.bind ?_ (fun _ => ?_)
theorem zar.mono : ∀ a0 k, LeO (zar.f k a0) (zar.f (k + 1) a0) := by
 intro a0 k
 have ih0 := zar.zbF k
 unfold zar.f
 repeat' first
   | (with_reducible exact ih0 _ _ _)
   | (with_reducible exact LeO.refl _)
   | (with_reducible exact LeO.none _)
   | (with_reducible refine LeO.ite ?_ ?_)
   | (with_reducible refine LeO.bind ?_ (fun _ => ?_))
   | exact ih0 _ _ _
   | exact LeO.none _
   | refine LeO.ite ?_ ?_
   | refine LeO.bind ?_ (fun _ => ?_)
theorem zar.calls (k : Nat) (A0 : Option Addr) (c0 : Nat) (l0 : List (S44)) (r : List ByteArray) (w : World) (hr0 : Kd.C k44 w A0 l0.length l0) (hc0 : l0.length ≤ c0) (h : zar.f k l0 = some r) :
  Calls Tryd.prog 15 #[.slice A0 l0.length c0] w fun e w' => ∃ v0_ : Value, e = .returned (v0_) ∧ Kd.R Kd.string 9 w' w.heap.size (fun _ => True) v0_ r ∧ Below w.heap.size w w' := by
 have HR0 := zaa.mk hr0
 have HC0 := zaa.mk hc0
 clear hr0 hc0
 have HB := zaa.mk (Below.refl w.heap.size w)
 have H : (zar.l0 k l0 (([(⟨#[105, 110, 116]⟩ : ByteArray), (⟨#[114, 101, 97, 108]⟩ : ByteArray), (⟨#[98, 111, 111, 108]⟩ : ByteArray), (⟨#[115, 116, 114]⟩ : ByteArray), (⟨#[117, 110, 105, 116]⟩ : ByteArray), (⟨#[63]⟩ : ByteArray)] : List ByteArray)) 0) = some r := h
 clear h
 obtain ⟨y177, hy177⟩ : ∃ y_ : List ByteArray, y_ = (([(⟨#[105, 110, 116]⟩ : ByteArray), (⟨#[114, 101, 97, 108]⟩ : ByteArray), (⟨#[98, 111, 111, 108]⟩ : ByteArray), (⟨#[115, 116, 114]⟩ : ByteArray), (⟨#[117, 110, 105, 116]⟩ : ByteArray), (⟨#[63]⟩ : ByteArray)] : List ByteArray)) := ⟨_, rfl⟩
 replace H : (zar.l0 k l0 y177 0) = some r := by first | (rw [hy177]; with_reducible exact H) | (have H2_ := (Option.bind_some _ _).symm.trans H; rw [hy177]; with_reducible exact H2_) | (have H2_ := (Option.bind_some _ _).symm.trans H; with_reducible exact H2_) | with_reducible exact H | (rw [hy177]; exact H) | exact H
 have Ny177 := zaa.mk hy177
 clear hy177
 have H' := zaa.mk H
 clear H
 go_enter Tryd.func15, Tryd.ntmps15
 go_wp2_with (first | ((with_reducible refine zbj (N := 5) rfl ?_); refine Kd.R_lit Kd.string _ 9 ?hg (N := 5) ?hd (xs := ([(⟨#[105, 110, 116]⟩ : ByteArray), (⟨#[114, 101, 97, 108]⟩ : ByteArray), (⟨#[98, 111, 111, 108]⟩ : ByteArray), (⟨#[115, 116, 114]⟩ : ByteArray), (⟨#[117, 110, 105, 116]⟩ : ByteArray), (⟨#[63]⟩ : ByteArray)] : List ByteArray)) (inner := [.string (⟨#[105, 110, 116]⟩ : ByteArray), .string (⟨#[114, 101, 97, 108]⟩ : ByteArray), .string (⟨#[98, 111, 111, 108]⟩ : ByteArray), .string (⟨#[115, 116, 114]⟩ : ByteArray), .string (⟨#[117, 110, 105, 116]⟩ : ByteArray), .string (⟨#[63]⟩ : ByteArray)]) (ok := fun _ => True) (okp := fun _ => True) ?hr ?hp (fun _ hk => hk) trivial (Below.refl _ _) (Nat.le_refl _) s9 ?_; (case hd => rfl); (case hg => rfl); (case hr => first | (go_simp; done) | (go_simp; rfl)); (case hp => exact (Reps.one (show Kd.M Kd.string _ _ _ (⟨#[105, 110, 116]⟩ : ByteArray) [.string (⟨#[105, 110, 116]⟩ : ByteArray)] from rfl) (Reps.one (show Kd.M Kd.string _ _ _ (⟨#[114, 101, 97, 108]⟩ : ByteArray) [.string (⟨#[114, 101, 97, 108]⟩ : ByteArray)] from rfl) (Reps.one (show Kd.M Kd.string _ _ _ (⟨#[98, 111, 111, 108]⟩ : ByteArray) [.string (⟨#[98, 111, 111, 108]⟩ : ByteArray)] from rfl) (Reps.one (show Kd.M Kd.string _ _ _ (⟨#[115, 116, 114]⟩ : ByteArray) [.string (⟨#[115, 116, 114]⟩ : ByteArray)] from rfl) (Reps.one (show Kd.M Kd.string _ _ _ (⟨#[117, 110, 105, 116]⟩ : ByteArray) [.string (⟨#[117, 110, 105, 116]⟩ : ByteArray)] from rfl) (Reps.one (show Kd.M Kd.string _ _ _ (⟨#[63]⟩ : ByteArray) [.string (⟨#[63]⟩ : ByteArray)] from rfl) (Reps.none _ _)))))))); intro v178 w2 ho3 hb hg_ hnew_; clear hg_ hnew_; (first | rw [← Ny177.out] at ho3 | (simp only [Int.reduceToNat] at ho3; rw [← Ny177.out] at ho3)); have n0_ := zaa.mk (Kd.zbg ho3 (zaN (by repeat (first | (with_reducible first | exact HB.out | apply zad | apply zac | apply zae) | exact HB.out)))); have n1_ := zaa.mk (zal (by repeat (first | (with_reducible first | exact HB.out | apply zad | apply zac | apply zae) | exact HB.out)) hb); clear HB; have HO179 := n0_; have HB := n1_; clear n0_ n1_; clear hb ho3))
 go_loopg [3, 4] k (fun kq v3 v4 w' => ∃ (x3_1 : List ByteArray) (x4_1 : Int), v4 = .int .i64 x4_1 ∧ zaa (zar.l0 kq l0 x3_1 x4_1 = some r) ∧ zaa (kq ≤ k) ∧ zaa (Kd.R Kd.string 9 w' w.heap.size (fun _ => True) v3 x3_1) ∧ zaa (Below w.heap.size w w'))
 case atStart => exact ⟨(y177), (0), (by first | rfl | (simp; done) | (simp [*]; done)), H', ⟨Nat.le_refl _⟩, ⟨by (with_reducible repeat (first | apply Kd.zax | apply Kd.zaB | apply Kd.zaK)); exact HO179.out⟩, ⟨by repeat (first | (with_reducible first | exact HB.out | apply zad | apply zac | apply zae) | exact HB.out)⟩⟩
 case round =>
  clear H'
  try clear c1
  try clear p2
  obtain ⟨x3_1, x4_1, rfl, HA, HK1, HO_3, HB⟩ := hrel
  cases gk with
  | zero => exact absurd HA.out (by simp [zar.l0])
  | succ k1 =>
   have H := HA.out
   clear HA
   simp only [zar.l0] at H
   by_cases c4 : x4_1 < (l0.length : Int)
   ·
    rw [if_pos c4] at H
    have c4b0 : decide (x4_1 < (l0.length : Int)) = true := decide_eq_true c4
    clear c4
    by_cases c5 : 0 ≤ x4_1
    ·
     rw [if_pos c5] at H
     have c5b0 : decide (0 ≤ x4_1) = true := decide_eq_true c5
     clear c5
     by_cases c6 : x3_1.length < 8796093022208
     ·
      rw [if_pos c6] at H
      have LMc6 := zaa.mk c6
      clear c6
      obtain ⟨y181, hy181⟩ : ∃ y_ : List ByteArray, y_ = (x3_1 ++ [(zai l0 x4_1).f0]) := ⟨_, rfl⟩
      replace H : (zar.l0 k1 l0 y181 (wrap64 (x4_1 + 1))) = some r := by first | (rw [hy181]; with_reducible exact H) | (have H2_ := (Option.bind_some _ _).symm.trans H; rw [hy181]; with_reducible exact H2_) | (have H2_ := (Option.bind_some _ _).symm.trans H; with_reducible exact H2_) | with_reducible exact H | (rw [hy181]; exact H) | exact H
      have Ny181 := zaa.mk hy181
      clear hy181
      have H' := zaa.mk H
      clear H
      have p180 : 0 ≤ (x4_1 : Int) := of_decide_eq_true (by first | (with_reducible assumption) | assumption)
      have q180 : x4_1 < (l0.length : Int) := of_decide_eq_true (by first | (with_reducible assumption) | assumption)
      obtain ⟨ad180, A180_2, c180_2, A180_3, c180_3, e180, hx180_0, hx180_1, hx180_2, hx180_3, hl180_2, hi180_2, hl180_3, hi180_3⟩ := zbS HR0.out x4_1 p180 q180
      cases e180
      replace hx180_0 := (HB.out.cell (World.block_lt_of_cell? w _ hx180_0)).trans hx180_0
      replace hx180_1 := (HB.out.cell (World.block_lt_of_cell? w _ hx180_1)).trans hx180_1
      replace hx180_2 := (HB.out.cell (World.block_lt_of_cell? w _ hx180_2)).trans hx180_2
      replace hx180_3 := (HB.out.cell (World.block_lt_of_cell? w _ hx180_3)).trans hx180_3
      have HR180_2 := zaa.mk hi180_2
      have HC180_2 := zaa.mk hl180_2
      clear hi180_2 hl180_2
      have HR180_3 := zaa.mk hi180_3
      have HC180_3 := zaa.mk hl180_3
      clear hi180_3 hl180_3
      replace p180 := eq_true p180
      replace q180 := eq_true q180
      go_wp2_with (first | ((with_reducible refine zbW (b := .append) (xs := #[.tmp 12, .tmp 18]) rfl ?_); at_builtin; refine Kd.zc4 Kd.string (w0 := w) w.heap.size rfl (.tmp 12) (.tmp 18) 28 9 (.string ⟨#[]⟩) 16 rfl Tryd.underlying28 info9 rfl d9 o9 u3 x3_1 ((zai l0 x4_1).f0) [.string ((zai l0 x4_1).f0)] (fun _ => True) (fun _ => False) rfl rfl ?aP (fun _ hk => hk.elim) ?aF ?aO ?aB ?aS ?aL ?_; (case aP => exact rfl); (case aB => exact (by repeat (first | (with_reducible first | exact HB.out | apply zad | apply zac | apply zae) | exact HB.out))); (case aF => exact (fun _ _ => trivial)); (case aO => exact (by (with_reducible repeat (first | apply Kd.zax | apply Kd.zaB | apply Kd.zaK)); exact HO_3.out)); (case aS => exact (zaN (by repeat (first | (with_reducible first | exact HB.out | apply zad | apply zac | apply zae) | exact HB.out)))); (case aL => have := LMc6.out; omega); intro v182 w7 ho hb hg hat; rw [← Ny181.out] at ho; have n0_ := zaa.mk (hb); have n1_ := zaa.mk (ho); clear HB; clear HO_3; have HB := n0_; have HO183 := n1_; clear n0_ n1_; clear ho hb hg hat))
      go_roundg k1
      case measure => have := HK1.out; omega
      case rel => exact ⟨(y181), (wrap64 (x4_1 + 1)), (by first | rfl | (simp; done) | (simp [*]; done)), H', ⟨by have := HK1.out; omega⟩, ⟨by (with_reducible repeat (first | apply Kd.zax | apply Kd.zaB | apply Kd.zaK)); exact HO183.out⟩, ⟨by repeat (first | (with_reducible first | exact HB.out | apply zad | apply zac | apply zae) | exact HB.out)⟩⟩
     ·
      rw [if_neg c6] at H
      exact absurd H s9
    ·
     rw [if_neg c5] at H
     exact absurd H s9
   ·
    rw [if_neg c4] at H
    have c4b0 : decide (x4_1 < (l0.length : Int)) = false := decide_eq_false c4
    clear c4
    obtain rfl := Option.some.inj H
    go_wp2
    go_ret
    exact ⟨_, by first | rfl | (simp [zaT, zaS] <;> rfl) | (simp [*, zaT, zaS] <;> rfl), by (with_reducible repeat (first | apply Kd.zax | apply Kd.zaB | apply Kd.zaK)); exact HO_3.out, by repeat (first | (with_reducible first | exact HB.out | apply zad | apply zac | apply zae) | exact HB.out)⟩
def zaL.f (a0 : Int) (a1 : Int) : Option (Int) := if a1 ≤ 0 then (some 0) else (if a1 = 0 then (none) else (if (Int.tmod a0 a1) < 0 then (some (wrap64 ((Int.tmod a0 a1) + a1))) else (some (Int.tmod a0 a1))))
theorem zaL.calls (a0 : Int) (a1 : Int) (r : Int) (w : World) (h : zaL.f a0 a1 = some r) :
  Calls Tryd.prog 16 #[.int .i64 a0, .int .i64 a1] w fun e w' => e = .returned (.int .i64 r) ∧ zba w w' := by
 have H : (if a1 ≤ 0 then (some 0) else (if a1 = 0 then (none) else (if (Int.tmod a0 a1) < 0 then (some (wrap64 ((Int.tmod a0 a1) + a1))) else (some (Int.tmod a0 a1))))) = some r := h
 clear h
 by_cases c3 : a1 ≤ 0
 ·
  rw [if_pos c3] at H
  have c3b0 : decide (a1 ≤ 0) = true := decide_eq_true c3
  clear c3
  obtain rfl := Option.some.inj H
  go_enter Tryd.func16, Tryd.ntmps16
  go_wp2
  go_ret
  exact ⟨by first | rfl | (simp; done) | (simp [*]; done), by repeat (first | exact zba.refl _ | apply zba.step)⟩
 ·
  rw [if_neg c3] at H
  have c3b0 : decide (a1 ≤ 0) = false := decide_eq_false c3
  clear c3
  by_cases c4 : a1 = 0
  ·
   rw [if_pos c4] at H
   exact absurd H s9
  ·
   rw [if_neg c4] at H
   have c4b0 : (a1 == 0) = false := beq_eq_false_iff_ne.mpr c4
   have c4b1 : (a1 != 0) = true := bne_iff_ne.mpr c4
   by_cases c5 : (Int.tmod a0 a1) < 0
   ·
    rw [if_pos c5] at H
    have c5b0 : decide ((Int.tmod a0 a1) < 0) = true := decide_eq_true c5
    clear c5
    obtain rfl := Option.some.inj H
    go_enter Tryd.func16, Tryd.ntmps16
    go_wp2
    go_ret
    exact ⟨by first | rfl | (simp; done) | (simp [*]; done), by repeat (first | exact zba.refl _ | apply zba.step)⟩
   ·
    rw [if_neg c5] at H
    have c5b0 : decide ((Int.tmod a0 a1) < 0) = false := decide_eq_false c5
    clear c5
    obtain rfl := Option.some.inj H
    go_enter Tryd.func16, Tryd.ntmps16
    go_wp2
    go_ret
    exact ⟨by first | rfl | (simp; done) | (simp [*]; done), by repeat (first | exact zba.refl _ | apply zba.step)⟩
mutual
def chaperonlaw06_SubtypeJoin.j0 : Nat → List (S44) → Int → Int → Int → Bool → Bool → Option (Bool)
 | 0, _, _, _, _, _, _ => none
 | k + 1, x0, x1, x2, x3, x9, x27 => if x27 = true then (some x9) else ((zar.f k x0).bind fun t208 => ((zaL.f x1 (t208.length : Int)).bind fun t211 => (if 0 ≤ t211 then (if t211 < (t208.length : Int) then ((zaL.f x2 (t208.length : Int)).bind fun t213 => (if 0 ≤ t213 then (if t213 < (t208.length : Int) then ((zaL.f x3 (t208.length : Int)).bind fun t215 => (if 0 ≤ t215 then (if t215 < (t208.length : Int) then ((zaG.f k x0 (rdOf ByteArray.empty t208 t211) (rdOf ByteArray.empty t208 t213)).bind fun bt217 => ((zaG.f k x0 (rdOf ByteArray.empty t208 t213) (rdOf ByteArray.empty t208 t211)).bind fun bt219 => (if bt217.1.toList = bt219.1.toList then (chaperonlaw06_SubtypeJoin.j1 k x0 x9 (rdOf ByteArray.empty t208 t211) (rdOf ByteArray.empty t208 t213) (rdOf ByteArray.empty t208 t215) bt217.1 bt217.2 (bt217.2 != bt219.2)) else (none)))) else (none)) else (none))) else (none)) else (none))) else (none)) else (none))))
def chaperonlaw06_SubtypeJoin.j1 : Nat → List (S44) → Bool → ByteArray → ByteArray → ByteArray → ByteArray → Bool → Bool → Option (Bool)
 | 0, _, _, _, _, _, _, _, _ => none
 | k + 1, x0, x9, x11, x12, x13, x14, x15, x73 => if x73 = true then (none) else ((zaj.f k x0 x11 x13).bind fun t221 => (if t221 = true then ((zaj.f k x0 x12 x13).bind fun t222 => (chaperonlaw06_SubtypeJoin.j2 k x0 x9 x11 x12 x13 x14 x15 t222)) else (chaperonlaw06_SubtypeJoin.j2 k x0 x9 x11 x12 x13 x14 x15 false)))
def chaperonlaw06_SubtypeJoin.j2 : Nat → List (S44) → Bool → ByteArray → ByteArray → ByteArray → ByteArray → Bool → Bool → Option (Bool)
 | 0, _, _, _, _, _, _, _, _ => none
 | k + 1, x0, x9, x11, x12, x13, x14, x15, x18 => if x15 = true then (if x9 = true then ((zaj.f k x0 x11 x14).bind fun t223 => (if t223 = true then ((zaj.f k x0 x12 x14).bind fun t224 => (if t224 = true then (if x18 = true then ((zaj.f k x0 x14 x13).bind fun t225 => (some t225)) else (some true)) else (none))) else (none))) else (none)) else (if x9 = true then (if x14.toList = ([] : List UInt8) then (some (!x18)) else (none)) else (none))
end
def chaperonlaw06_SubtypeJoin.f (k : Nat) (l0 : List (S44)) (a1 : Int) (a2 : Int) (a3 : Int) : Option (Bool) := (zab.f k).bind fun t204 => ((zaf.f k l0).bind fun t205 => (if t205 = true then (chaperonlaw06_SubtypeJoin.j0 k l0 a1 a2 a3 t204 true) else ((zas.f k l0).bind fun bt206 => (chaperonlaw06_SubtypeJoin.j0 k l0 a1 a2 a3 t204 (bt206.1 != 0)))))
theorem chaperonlaw06_SubtypeJoin.zbF : ∀ k, (∀ y0 y1 y2 y3 y4 y5, LeO (chaperonlaw06_SubtypeJoin.j0 k y0 y1 y2 y3 y4 y5) (chaperonlaw06_SubtypeJoin.j0 (k + 1) y0 y1 y2 y3 y4 y5)) ∧ (∀ y0 y1 y2 y3 y4 y5 y6 y7, LeO (chaperonlaw06_SubtypeJoin.j1 k y0 y1 y2 y3 y4 y5 y6 y7) (chaperonlaw06_SubtypeJoin.j1 (k + 1) y0 y1 y2 y3 y4 y5 y6 y7)) ∧ (∀ y0 y1 y2 y3 y4 y5 y6 y7, LeO (chaperonlaw06_SubtypeJoin.j2 k y0 y1 y2 y3 y4 y5 y6 y7) (chaperonlaw06_SubtypeJoin.j2 (k + 1) y0 y1 y2 y3 y4 y5 y6 y7))
 | 0 => ⟨fun _ _ _ _ _ _ r h => by simp [chaperonlaw06_SubtypeJoin.j0] at h, fun _ _ _ _ _ _ _ _ r h => by simp [chaperonlaw06_SubtypeJoin.j1] at h, fun _ _ _ _ _ _ _ _ r h => by simp [chaperonlaw06_SubtypeJoin.j2] at h⟩
 | k + 1 => by
  obtain ⟨ih0, ih1, ih2⟩ := chaperonlaw06_SubtypeJoin.zbF k
  refine ⟨?_, ?_, ?_⟩
  ·
   intro y0 y1 y2 y3 y4 y5
   unfold chaperonlaw06_SubtypeJoin.j0
   repeat' first
   | (with_reducible exact ih0 _ _ _ _ _ _)
   | (with_reducible exact ih1 _ _ _ _ _ _ _ _)
   | (with_reducible exact ih2 _ _ _ _ _ _ _ _)
   | (with_reducible exact zaf.mono _ _)
   | (with_reducible exact zab.mono _)
   | (with_reducible exact zar.mono _ _)
   | (with_reducible exact zaG.mono _ _ _ _)
   | (with_reducible exact zaj.mono _ _ _ _)
   | (with_reducible exact zas.mono _ _)
   | (with_reducible exact LeO.refl _)
   | (with_reducible exact LeO.none _)
   | (with_reducible refine LeO.ite ?_ ?_)
   | (with_reducible refine LeO.bind ?_ (fun _ => ?_))
   | exact ih0 _ _ _ _ _ _
   | exact ih1 _ _ _ _ _ _ _ _
   | exact ih2 _ _ _ _ _ _ _ _
   | exact zaf.mono _ _
   | exact zab.mono _
   | exact zar.mono _ _
   | exact zaG.mono _ _ _ _
   | exact zaj.mono _ _ _ _
   | exact zas.mono _ _
   | exact LeO.none _
   | refine LeO.ite ?_ ?_
   | refine LeO.bind ?_ (fun _ => ?_)
  ·
   intro y0 y1 y2 y3 y4 y5 y6 y7
   unfold chaperonlaw06_SubtypeJoin.j1
   repeat' first
   | (with_reducible exact ih0 _ _ _ _ _ _)
   | (with_reducible exact ih1 _ _ _ _ _ _ _ _)
   | (with_reducible exact ih2 _ _ _ _ _ _ _ _)
   | (with_reducible exact zaf.mono _ _)
   | (with_reducible exact zab.mono _)
   | (with_reducible exact zar.mono _ _)
   | (with_reducible exact zaG.mono _ _ _ _)
   | (with_reducible exact zaj.mono _ _ _ _)
   | (with_reducible exact zas.mono _ _)
   | (with_reducible exact LeO.refl _)
   | (with_reducible exact LeO.none _)
   | (with_reducible refine LeO.ite ?_ ?_)
   | (with_reducible refine LeO.bind ?_ (fun _ => ?_))
   | exact ih0 _ _ _ _ _ _
   | exact ih1 _ _ _ _ _ _ _ _
   | exact ih2 _ _ _ _ _ _ _ _
   | exact zaf.mono _ _
   | exact zab.mono _
   | exact zar.mono _ _
   | exact zaG.mono _ _ _ _
   | exact zaj.mono _ _ _ _
   | exact zas.mono _ _
   | exact LeO.none _
   | refine LeO.ite ?_ ?_
   | refine LeO.bind ?_ (fun _ => ?_)
  ·
   intro y0 y1 y2 y3 y4 y5 y6 y7
   unfold chaperonlaw06_SubtypeJoin.j2
   repeat' first
   | (with_reducible exact ih0 _ _ _ _ _ _)
   | (with_reducible exact ih1 _ _ _ _ _ _ _ _)
   | (with_reducible exact ih2 _ _ _ _ _ _ _ _)
   | (with_reducible exact zaf.mono _ _)
   | (with_reducible exact zab.mono _)
   | (with_reducible exact zar.mono _ _)
   | (with_reducible exact zaG.mono _ _ _ _)
   | (with_reducible exact zaj.mono _ _ _ _)
   | (with_reducible exact zas.mono _ _)
   | (with_reducible exact LeO.refl _)
   | (with_reducible exact LeO.none _)
   | (with_reducible refine LeO.ite ?_ ?_)
   | (with_reducible refine LeO.bind ?_ (fun _ => ?_))
   | exact ih0 _ _ _ _ _ _
   | exact ih1 _ _ _ _ _ _ _ _
   | exact ih2 _ _ _ _ _ _ _ _
   | exact zaf.mono _ _
   | exact zab.mono _
   | exact zar.mono _ _
   | exact zaG.mono _ _ _ _
   | exact zaj.mono _ _ _ _
   | exact zas.mono _ _
   | exact LeO.none _
   | refine LeO.ite ?_ ?_
   | refine LeO.bind ?_ (fun _ => ?_)
theorem chaperonlaw06_SubtypeJoin.mono : ∀ a0 a1 a2 a3 k, LeO (chaperonlaw06_SubtypeJoin.f k a0 a1 a2 a3) (chaperonlaw06_SubtypeJoin.f (k + 1) a0 a1 a2 a3) := by
 intro a0 a1 a2 a3 k
 obtain ⟨ih0, ih1, ih2⟩ := chaperonlaw06_SubtypeJoin.zbF k
 unfold chaperonlaw06_SubtypeJoin.f
 repeat' first
   | (with_reducible exact ih0 _ _ _ _ _ _)
   | (with_reducible exact ih1 _ _ _ _ _ _ _ _)
   | (with_reducible exact ih2 _ _ _ _ _ _ _ _)
   | (with_reducible exact zaf.mono _ _)
   | (with_reducible exact zab.mono _)
   | (with_reducible exact zar.mono _ _)
   | (with_reducible exact zaG.mono _ _ _ _)
   | (with_reducible exact zaj.mono _ _ _ _)
   | (with_reducible exact zas.mono _ _)
   | (with_reducible exact LeO.refl _)
   | (with_reducible exact LeO.none _)
   | (with_reducible refine LeO.ite ?_ ?_)
   | (with_reducible refine LeO.bind ?_ (fun _ => ?_))
   | exact ih0 _ _ _ _ _ _
   | exact ih1 _ _ _ _ _ _ _ _
   | exact ih2 _ _ _ _ _ _ _ _
   | exact zaf.mono _ _
   | exact zab.mono _
   | exact zar.mono _ _
   | exact zaG.mono _ _ _ _
   | exact zaj.mono _ _ _ _
   | exact zas.mono _ _
   | exact LeO.none _
   | refine LeO.ite ?_ ?_
   | refine LeO.bind ?_ (fun _ => ?_)
theorem chaperonlaw06_SubtypeJoin.calls (k : Nat) (A0 : Option Addr) (c0 : Nat) (l0 : List (S44)) (a1 : Int) (a2 : Int) (a3 : Int) (r : Bool) (w : World) (hr0 : Kd.C k44 w A0 l0.length l0) (hc0 : l0.length ≤ c0) (h : chaperonlaw06_SubtypeJoin.f k l0 a1 a2 a3 = some r) (hG : Go.Proofs.YtofoegknealilaaDoorTab.GW w := by exact Go.Proofs.YtofoegknealilaaDoorTab.GW.below hG (by repeat (first | (with_reducible first | exact HB.out | apply zad | apply zac | apply zae) | exact HB.out | refine zau ?_ (zaa.out (by assumption)) | exact Below.refl _ _))) :
  Calls Tryd.prog 5 #[.slice A0 l0.length c0, .int .i64 a1, .int .i64 a2, .int .i64 a3] w fun e w' => e = .returned (.bool r) ∧ Below w.heap.size w w' := by
 have HR0 := zaa.mk hr0
 have HC0 := zaa.mk hc0
 clear hr0 hc0
 have HB := zaa.mk (Below.refl w.heap.size w)
 have hf_ : ∀ (a b : Int) (w : World), (Instr.field 36 (.agg #[.int .i64 a, .int .i64 b]) 0).run Tryd.prog w = .ok (.int .i64 a) w := fun a b w => by simp [Instr.field, asAgg, part, isAgg, go_sem, run_underlying Tryd.underlying36, run_underlying Tryd.underlying34]
 have H : ((zab.f k).bind fun t204 => ((zaf.f k l0).bind fun t205 => (if t205 = true then (chaperonlaw06_SubtypeJoin.j0 k l0 a1 a2 a3 t204 true) else ((zas.f k l0).bind fun bt206 => (chaperonlaw06_SubtypeJoin.j0 k l0 a1 a2 a3 t204 (bt206.1 != 0)))))) = some r := h
 clear h
 replace H := Option.bind_eq_some_iff.mp H
 obtain ⟨t204, A50, H⟩ := H
 replace H : ((zaf.f k l0).bind fun t205 => (if t205 = true then (chaperonlaw06_SubtypeJoin.j0 k l0 a1 a2 a3 t204 true) else ((zas.f k l0).bind fun bt206 => (chaperonlaw06_SubtypeJoin.j0 k l0 a1 a2 a3 t204 (bt206.1 != 0))))) = some r := H
 have A5 := zaa.mk A50
 clear A50
 have HC6 := zaa.mk H
 clear H
 go_enter Tryd.func5, Tryd.ntmps5
 go_upto_region 2 with (first | (go_at_call 3; (with_reducible refine (zab.calls k  t204 _ A5.out).mono ?_); rintro e w7 ⟨rfl, hb⟩; have n0_ := zaa.mk (zal (by repeat (first | (with_reducible first | exact HB.out | apply zad | apply zac | apply zae) | exact HB.out)) hb); clear HB; have HB := n0_; clear n0_; (try clear hb); (try clear hb2); (try clear hk); (try clear hi)))
 repeat (go_quiet (first | (go_at_call 3; (with_reducible refine (zab.calls k  t204 _ A5.out).mono ?_); rintro e w7 ⟨rfl, hb⟩; have n0_ := zaa.mk (zal (by repeat (first | (with_reducible first | exact HB.out | apply zad | apply zac | apply zae) | exact HB.out)) hb); clear HB; have HB := n0_; clear n0_; (try clear hb); (try clear hb2); (try clear hk); (try clear hi))); go_upto_region 2 with (first | (go_at_call 3; (with_reducible refine (zab.calls k  t204 _ A5.out).mono ?_); rintro e w7 ⟨rfl, hb⟩; have n0_ := zaa.mk (zal (by repeat (first | (with_reducible first | exact HB.out | apply zad | apply zac | apply zae) | exact HB.out)) hb); clear HB; have HB := n0_; clear n0_; (try clear hb); (try clear hb2); (try clear hk); (try clear hi))))
 (try simp only [Act.put, List.setIfInBounds_toArray, List.set_cons_zero, List.set_cons_succ])
 go_cut [27] (fun v27 wc => ∃ (kq : Nat) (x27_5 : Bool), v27 = .bool x27_5 ∧ zaa (chaperonlaw06_SubtypeJoin.j0 kq l0 a1 a2 a3 t204 x27_5 = some r) ∧ zaa (kq ≤ k) ∧ zaa (Below w.heap.size w wc))
 case first =>
  have H := HC6.out
  clear HC6
  replace H := Option.bind_eq_some_iff.mp H
  obtain ⟨t205, A80, H⟩ := H
  replace H : (if t205 = true then (chaperonlaw06_SubtypeJoin.j0 k l0 a1 a2 a3 t204 true) else ((zas.f k l0).bind fun bt206 => (chaperonlaw06_SubtypeJoin.j0 k l0 a1 a2 a3 t204 (bt206.1 != 0)))) = some r := H
  have A8 := zaa.mk A80
  clear A80
  by_cases c9 : t205 = true
  ·
   subst c9
   have H1 : (chaperonlaw06_SubtypeJoin.j0 k l0 a1 a2 a3 t204 true) = some r := by rw [if_pos rfl] at H; exact H
   clear H
   have H := H1
   clear H1
   as_aux_lemma =>
    have H' := zaa.mk H
    clear H
    go_wp2_with (first | (go_at_call 14; (with_reducible refine (zaf.calls k _ _ l0 true _ ?side1 ?side2 A8.out).mono ?_); (case side1 => repeat (first | exact (Kd.zaw HR0.out HB.out) | (with_reducible refine Kd.zaC ?_ _) | (with_reducible refine Kd.zaD ?_ _) | (with_reducible refine Kd.zaQ ?_))); (case side2 => exact HC0.out); rintro e w10 ⟨rfl, hb⟩; have n0_ := zaa.mk (zal (by repeat (first | (with_reducible first | exact HB.out | apply zad | apply zac | apply zae) | exact HB.out)) hb); clear HB; have HB := n0_; clear n0_; (try clear hb); (try clear hb2); (try clear hk); (try clear hi)))
    repeat (go_quiet (first | (go_at_call 14; (with_reducible refine (zaf.calls k _ _ l0 true _ ?side1 ?side2 A8.out).mono ?_); (case side1 => repeat (first | exact (Kd.zaw HR0.out HB.out) | (with_reducible refine Kd.zaC ?_ _) | (with_reducible refine Kd.zaD ?_ _) | (with_reducible refine Kd.zaQ ?_))); (case side2 => exact HC0.out); rintro e w10 ⟨rfl, hb⟩; have n0_ := zaa.mk (zal (by repeat (first | (with_reducible first | exact HB.out | apply zad | apply zac | apply zae) | exact HB.out)) hb); clear HB; have HB := n0_; clear n0_; (try clear hb); (try clear hb2); (try clear hk); (try clear hi))); try go_wp2_with (first | (go_at_call 14; (with_reducible refine (zaf.calls k _ _ l0 true _ ?side1 ?side2 A8.out).mono ?_); (case side1 => repeat (first | exact (Kd.zaw HR0.out HB.out) | (with_reducible refine Kd.zaC ?_ _) | (with_reducible refine Kd.zaD ?_ _) | (with_reducible refine Kd.zaQ ?_))); (case side2 => exact HC0.out); rintro e w10 ⟨rfl, hb⟩; have n0_ := zaa.mk (zal (by repeat (first | (with_reducible first | exact HB.out | apply zad | apply zac | apply zae) | exact HB.out)) hb); clear HB; have HB := n0_; clear n0_; (try clear hb); (try clear hb2); (try clear hk); (try clear hi))))
    go_meet
    case rel => exact ⟨_, (true), (by first | rfl | (simp; done) | (simp [*]; done)), H', ⟨by first | omega | exact Nat.le_refl _⟩, ⟨by repeat (first | (with_reducible first | exact HB.out | apply zad | apply zac | apply zae) | exact HB.out)⟩⟩
  ·
   replace c9 := Bool.eq_false_iff.mpr c9
   subst c9
   have H1 : ((zas.f k l0).bind fun bt206 => (chaperonlaw06_SubtypeJoin.j0 k l0 a1 a2 a3 t204 (bt206.1 != 0))) = some r := by rw [if_neg (show ¬ (false = true) by decide)] at H; exact H
   clear H
   have H := H1
   clear H1
   replace H := Option.bind_eq_some_iff.mp H
   obtain ⟨⟨t206, t207⟩, A110, H⟩ := H
   replace H : (chaperonlaw06_SubtypeJoin.j0 k l0 a1 a2 a3 t204 (t206 != 0)) = some r := H
   have A11 := zaa.mk A110
   clear A110
   as_aux_lemma =>
    have H' := zaa.mk H
    clear H
    go_wp2_with (first | (go_at_call 14; (with_reducible refine (zaf.calls k _ _ l0 false _ ?side1 ?side2 A8.out).mono ?_); (case side1 => repeat (first | exact (Kd.zaw HR0.out HB.out) | (with_reducible refine Kd.zaC ?_ _) | (with_reducible refine Kd.zaD ?_ _) | (with_reducible refine Kd.zaQ ?_))); (case side2 => exact HC0.out); rintro e w12 ⟨rfl, hb⟩; have n0_ := zaa.mk (zal (by repeat (first | (with_reducible first | exact HB.out | apply zad | apply zac | apply zae) | exact HB.out)) hb); clear HB; have HB := n0_; clear n0_; (try clear hb); (try clear hb2); (try clear hk); (try clear hi)) | (go_at_call 17; (with_reducible refine (zas.calls k _ _ l0 t206 t207 _ ?side1 ?side2 A11.out).mono ?_); (case side1 => repeat (first | exact (Kd.zaw HR0.out HB.out) | (with_reducible refine Kd.zaC ?_ _) | (with_reducible refine Kd.zaD ?_ _) | (with_reducible refine Kd.zaQ ?_))); (case side2 => exact HC0.out); rintro e w13 ⟨rfl, hb⟩; have n0_ := zaa.mk (zal (by repeat (first | (with_reducible first | exact HB.out | apply zad | apply zac | apply zae) | exact HB.out)) hb); clear HB; have HB := n0_; clear n0_; (try clear hb); (try clear hb2); (try clear hk); (try clear hi)))
    repeat (go_quiet (first | (go_at_call 14; (with_reducible refine (zaf.calls k _ _ l0 false _ ?side1 ?side2 A8.out).mono ?_); (case side1 => repeat (first | exact (Kd.zaw HR0.out HB.out) | (with_reducible refine Kd.zaC ?_ _) | (with_reducible refine Kd.zaD ?_ _) | (with_reducible refine Kd.zaQ ?_))); (case side2 => exact HC0.out); rintro e w12 ⟨rfl, hb⟩; have n0_ := zaa.mk (zal (by repeat (first | (with_reducible first | exact HB.out | apply zad | apply zac | apply zae) | exact HB.out)) hb); clear HB; have HB := n0_; clear n0_; (try clear hb); (try clear hb2); (try clear hk); (try clear hi)) | (go_at_call 17; (with_reducible refine (zas.calls k _ _ l0 t206 t207 _ ?side1 ?side2 A11.out).mono ?_); (case side1 => repeat (first | exact (Kd.zaw HR0.out HB.out) | (with_reducible refine Kd.zaC ?_ _) | (with_reducible refine Kd.zaD ?_ _) | (with_reducible refine Kd.zaQ ?_))); (case side2 => exact HC0.out); rintro e w13 ⟨rfl, hb⟩; have n0_ := zaa.mk (zal (by repeat (first | (with_reducible first | exact HB.out | apply zad | apply zac | apply zae) | exact HB.out)) hb); clear HB; have HB := n0_; clear n0_; (try clear hb); (try clear hb2); (try clear hk); (try clear hi))); try go_wp2_with (first | (go_at_call 14; (with_reducible refine (zaf.calls k _ _ l0 false _ ?side1 ?side2 A8.out).mono ?_); (case side1 => repeat (first | exact (Kd.zaw HR0.out HB.out) | (with_reducible refine Kd.zaC ?_ _) | (with_reducible refine Kd.zaD ?_ _) | (with_reducible refine Kd.zaQ ?_))); (case side2 => exact HC0.out); rintro e w12 ⟨rfl, hb⟩; have n0_ := zaa.mk (zal (by repeat (first | (with_reducible first | exact HB.out | apply zad | apply zac | apply zae) | exact HB.out)) hb); clear HB; have HB := n0_; clear n0_; (try clear hb); (try clear hb2); (try clear hk); (try clear hi)) | (go_at_call 17; (with_reducible refine (zas.calls k _ _ l0 t206 t207 _ ?side1 ?side2 A11.out).mono ?_); (case side1 => repeat (first | exact (Kd.zaw HR0.out HB.out) | (with_reducible refine Kd.zaC ?_ _) | (with_reducible refine Kd.zaD ?_ _) | (with_reducible refine Kd.zaQ ?_))); (case side2 => exact HC0.out); rintro e w13 ⟨rfl, hb⟩; have n0_ := zaa.mk (zal (by repeat (first | (with_reducible first | exact HB.out | apply zad | apply zac | apply zae) | exact HB.out)) hb); clear HB; have HB := n0_; clear n0_; (try clear hb); (try clear hb2); (try clear hk); (try clear hi))))
    go_meet
    case rel => exact ⟨_, ((t206 != 0)), (by first | rfl | (simp; done) | (simp [*]; done)), H', ⟨by first | omega | exact Nat.le_refl _⟩, ⟨by repeat (first | (with_reducible first | exact HB.out | apply zad | apply zac | apply zae) | exact HB.out)⟩⟩
 case rest =>
  clear HC6
  try clear p2
  try clear c5
  try clear c9
  obtain ⟨kq, x27_5, rfl, HA, HJ5, HB⟩ := hcut
  cases kq with
  | zero => exact absurd HA.out (by simp [chaperonlaw06_SubtypeJoin.j0])
  | succ kj5 =>
   have H := HA.out
   clear HA
   simp only [chaperonlaw06_SubtypeJoin.j0] at H
   by_cases c14 : x27_5 = true
   ·
    subst c14
    have H1 : (some t204) = some r := by rw [if_pos rfl] at H; exact H
    clear H
    have H := H1
    clear H1
    as_aux_lemma =>
     obtain rfl := Option.some.inj H
     go_wp2
     repeat (go_quiet (fail); try go_wp2)
     go_ret
     exact ⟨by first | rfl | (simp [zaT, zaS] <;> rfl) | (simp [*, zaT, zaS] <;> rfl), by repeat (first | (with_reducible first | exact HB.out | apply zad | apply zac | apply zae) | exact HB.out)⟩
   ·
    replace c14 := Bool.eq_false_iff.mpr c14
    subst c14
    have H1 : ((zar.f kj5 l0).bind fun t208 => ((zaL.f a1 (t208.length : Int)).bind fun t211 => (if 0 ≤ t211 then (if t211 < (t208.length : Int) then ((zaL.f a2 (t208.length : Int)).bind fun t213 => (if 0 ≤ t213 then (if t213 < (t208.length : Int) then ((zaL.f a3 (t208.length : Int)).bind fun t215 => (if 0 ≤ t215 then (if t215 < (t208.length : Int) then ((zaG.f kj5 l0 (rdOf ByteArray.empty t208 t211) (rdOf ByteArray.empty t208 t213)).bind fun bt217 => ((zaG.f kj5 l0 (rdOf ByteArray.empty t208 t213) (rdOf ByteArray.empty t208 t211)).bind fun bt219 => (if bt217.1.toList = bt219.1.toList then (chaperonlaw06_SubtypeJoin.j1 kj5 l0 t204 (rdOf ByteArray.empty t208 t211) (rdOf ByteArray.empty t208 t213) (rdOf ByteArray.empty t208 t215) bt217.1 bt217.2 (bt217.2 != bt219.2)) else (none)))) else (none)) else (none))) else (none)) else (none))) else (none)) else (none)))) = some r := by rw [if_neg (show ¬ (false = true) by decide)] at H; exact H
    clear H
    have H := H1
    clear H1
    replace H := Option.bind_eq_some_iff.mp H
    obtain ⟨t208, A150, H⟩ := H
    replace H : ((zaL.f a1 (t208.length : Int)).bind fun t211 => (if 0 ≤ t211 then (if t211 < (t208.length : Int) then ((zaL.f a2 (t208.length : Int)).bind fun t213 => (if 0 ≤ t213 then (if t213 < (t208.length : Int) then ((zaL.f a3 (t208.length : Int)).bind fun t215 => (if 0 ≤ t215 then (if t215 < (t208.length : Int) then ((zaG.f kj5 l0 (rdOf ByteArray.empty t208 t211) (rdOf ByteArray.empty t208 t213)).bind fun bt217 => ((zaG.f kj5 l0 (rdOf ByteArray.empty t208 t213) (rdOf ByteArray.empty t208 t211)).bind fun bt219 => (if bt217.1.toList = bt219.1.toList then (chaperonlaw06_SubtypeJoin.j1 kj5 l0 t204 (rdOf ByteArray.empty t208 t211) (rdOf ByteArray.empty t208 t213) (rdOf ByteArray.empty t208 t215) bt217.1 bt217.2 (bt217.2 != bt219.2)) else (none)))) else (none)) else (none))) else (none)) else (none))) else (none)) else (none))) = some r := H
    have A15 := zaa.mk A150
    clear A150
    replace H := Option.bind_eq_some_iff.mp H
    obtain ⟨t211, A160, H⟩ := H
    replace H : (if 0 ≤ t211 then (if t211 < (t208.length : Int) then ((zaL.f a2 (t208.length : Int)).bind fun t213 => (if 0 ≤ t213 then (if t213 < (t208.length : Int) then ((zaL.f a3 (t208.length : Int)).bind fun t215 => (if 0 ≤ t215 then (if t215 < (t208.length : Int) then ((zaG.f kj5 l0 (rdOf ByteArray.empty t208 t211) (rdOf ByteArray.empty t208 t213)).bind fun bt217 => ((zaG.f kj5 l0 (rdOf ByteArray.empty t208 t213) (rdOf ByteArray.empty t208 t211)).bind fun bt219 => (if bt217.1.toList = bt219.1.toList then (chaperonlaw06_SubtypeJoin.j1 kj5 l0 t204 (rdOf ByteArray.empty t208 t211) (rdOf ByteArray.empty t208 t213) (rdOf ByteArray.empty t208 t215) bt217.1 bt217.2 (bt217.2 != bt219.2)) else (none)))) else (none)) else (none))) else (none)) else (none))) else (none)) else (none)) = some r := H
    have A16 := zaa.mk A160
    clear A160
    by_cases c17 : 0 ≤ t211
    ·
     rw [if_pos c17] at H
     have c17b0 : decide (0 ≤ t211) = true := decide_eq_true c17
     clear c17
     by_cases c18 : t211 < (t208.length : Int)
     ·
      rw [if_pos c18] at H
      have c18b0 : decide (t211 < (t208.length : Int)) = true := decide_eq_true c18
      clear c18
      replace H := Option.bind_eq_some_iff.mp H
      obtain ⟨t213, A190, H⟩ := H
      replace H : (if 0 ≤ t213 then (if t213 < (t208.length : Int) then ((zaL.f a3 (t208.length : Int)).bind fun t215 => (if 0 ≤ t215 then (if t215 < (t208.length : Int) then ((zaG.f kj5 l0 (rdOf ByteArray.empty t208 t211) (rdOf ByteArray.empty t208 t213)).bind fun bt217 => ((zaG.f kj5 l0 (rdOf ByteArray.empty t208 t213) (rdOf ByteArray.empty t208 t211)).bind fun bt219 => (if bt217.1.toList = bt219.1.toList then (chaperonlaw06_SubtypeJoin.j1 kj5 l0 t204 (rdOf ByteArray.empty t208 t211) (rdOf ByteArray.empty t208 t213) (rdOf ByteArray.empty t208 t215) bt217.1 bt217.2 (bt217.2 != bt219.2)) else (none)))) else (none)) else (none))) else (none)) else (none)) = some r := H
      have A19 := zaa.mk A190
      clear A190
      by_cases c20 : 0 ≤ t213
      ·
       rw [if_pos c20] at H
       have c20b0 : decide (0 ≤ t213) = true := decide_eq_true c20
       clear c20
       by_cases c21 : t213 < (t208.length : Int)
       ·
        rw [if_pos c21] at H
        have c21b0 : decide (t213 < (t208.length : Int)) = true := decide_eq_true c21
        clear c21
        replace H := Option.bind_eq_some_iff.mp H
        obtain ⟨t215, A220, H⟩ := H
        replace H : (if 0 ≤ t215 then (if t215 < (t208.length : Int) then ((zaG.f kj5 l0 (rdOf ByteArray.empty t208 t211) (rdOf ByteArray.empty t208 t213)).bind fun bt217 => ((zaG.f kj5 l0 (rdOf ByteArray.empty t208 t213) (rdOf ByteArray.empty t208 t211)).bind fun bt219 => (if bt217.1.toList = bt219.1.toList then (chaperonlaw06_SubtypeJoin.j1 kj5 l0 t204 (rdOf ByteArray.empty t208 t211) (rdOf ByteArray.empty t208 t213) (rdOf ByteArray.empty t208 t215) bt217.1 bt217.2 (bt217.2 != bt219.2)) else (none)))) else (none)) else (none)) = some r := H
        have A22 := zaa.mk A220
        clear A220
        by_cases c23 : 0 ≤ t215
        ·
         rw [if_pos c23] at H
         have c23b0 : decide (0 ≤ t215) = true := decide_eq_true c23
         clear c23
         by_cases c24 : t215 < (t208.length : Int)
         ·
          rw [if_pos c24] at H
          have c24b0 : decide (t215 < (t208.length : Int)) = true := decide_eq_true c24
          clear c24
          replace H := Option.bind_eq_some_iff.mp H
          obtain ⟨⟨t217, t218⟩, A250, H⟩ := H
          replace H : ((zaG.f kj5 l0 (rdOf ByteArray.empty t208 t213) (rdOf ByteArray.empty t208 t211)).bind fun bt219 => (if t217.toList = bt219.1.toList then (chaperonlaw06_SubtypeJoin.j1 kj5 l0 t204 (rdOf ByteArray.empty t208 t211) (rdOf ByteArray.empty t208 t213) (rdOf ByteArray.empty t208 t215) t217 t218 (t218 != bt219.2)) else (none))) = some r := H
          have A25 := zaa.mk A250
          clear A250
          replace H := Option.bind_eq_some_iff.mp H
          obtain ⟨⟨t219, t220⟩, A260, H⟩ := H
          replace H : (if t217.toList = t219.toList then (chaperonlaw06_SubtypeJoin.j1 kj5 l0 t204 (rdOf ByteArray.empty t208 t211) (rdOf ByteArray.empty t208 t213) (rdOf ByteArray.empty t208 t215) t217 t218 (t218 != t220)) else (none)) = some r := H
          have A26 := zaa.mk A260
          clear A260
          have HC27 := zaa.mk H
          clear H
          go_upto_region 8 with (first | (go_at_call 15; (with_reducible refine (zar.calls kj5 _ _ l0 t208 _ ?side1 ?side2 A15.out).mono ?_); (case side1 => repeat (first | exact (Kd.zaw HR0.out HB.out) | (with_reducible refine Kd.zaC ?_ _) | (with_reducible refine Kd.zaD ?_ _) | (with_reducible refine Kd.zaQ ?_))); (case side2 => exact HC0.out); rintro e w28 ⟨v209, rfl, ho0, hb⟩; have n0_ := zaa.mk (Kd.zbg ho0 (zaN (by repeat (first | (with_reducible first | exact HB.out | apply zad | apply zac | apply zae) | exact HB.out)))); have n1_ := zaa.mk (zal (by repeat (first | (with_reducible first | exact HB.out | apply zad | apply zac | apply zae) | exact HB.out)) hb); clear HB; have HO210 := n0_; have HB := n1_; clear n0_ n1_; (try clear hb); (try clear hb2); (try clear hk); (try clear hi); (try clear ho0); obtain ⟨Ao29, co29, eo29⟩ := Kd.za1 HO210.out; subst eo29) | (go_at_call 16; (with_reducible refine (zaL.calls a1 (t208.length : Int) t211 _ A16.out).mono ?_); rintro e w' ⟨rfl, ⟨nd, rfl⟩⟩; (try first | exact ⟨rfl, _, World.drewN_drewN _ _ _⟩ | exact ⟨rfl, _, Eq.trans (World.drewN_drewN _ _ _) (congrArg (World.drewN _) (Nat.add_assoc _ _ _))⟩); have p212 : 0 ≤ (t211 : Int) := of_decide_eq_true (by first | (with_reducible assumption) | assumption); have q212 : t211 < (t208.length : Int) := of_decide_eq_true (by first | (with_reducible assumption) | assumption); obtain ⟨ad212, e212, hx212_0⟩ := Kd.zbl (Kd.zav HO210.out).2.2 t211 p212 q212; cases e212; replace p212 := eq_true p212; replace q212 := eq_true q212) | (go_at_call 16; (with_reducible refine (zaL.calls a2 (t208.length : Int) t213 _ A19.out).mono ?_); rintro e w' ⟨rfl, ⟨nd, rfl⟩⟩; (try first | exact ⟨rfl, _, World.drewN_drewN _ _ _⟩ | exact ⟨rfl, _, Eq.trans (World.drewN_drewN _ _ _) (congrArg (World.drewN _) (Nat.add_assoc _ _ _))⟩); have p214 : 0 ≤ (t213 : Int) := of_decide_eq_true (by first | (with_reducible assumption) | assumption); have q214 : t213 < (t208.length : Int) := of_decide_eq_true (by first | (with_reducible assumption) | assumption); obtain ⟨ad214, e214, hx214_0⟩ := Kd.zbl (Kd.zav HO210.out).2.2 t213 p214 q214; obtain rfl : ad212 = ad214 := (by injection e214); replace p214 := eq_true p214; replace q214 := eq_true q214) | (go_at_call 16; (with_reducible refine (zaL.calls a3 (t208.length : Int) t215 _ A22.out).mono ?_); rintro e w' ⟨rfl, ⟨nd, rfl⟩⟩; (try first | exact ⟨rfl, _, World.drewN_drewN _ _ _⟩ | exact ⟨rfl, _, Eq.trans (World.drewN_drewN _ _ _) (congrArg (World.drewN _) (Nat.add_assoc _ _ _))⟩); have p216 : 0 ≤ (t215 : Int) := of_decide_eq_true (by first | (with_reducible assumption) | assumption); have q216 : t215 < (t208.length : Int) := of_decide_eq_true (by first | (with_reducible assumption) | assumption); obtain ⟨ad216, e216, hx216_0⟩ := Kd.zbl (Kd.zav HO210.out).2.2 t215 p216 q216; obtain rfl : ad212 = ad216 := (by injection e216); replace p216 := eq_true p216; replace q216 := eq_true q216) | (go_at_call 18; (with_reducible refine (zaG.calls kj5 _ _ l0 (rdOf ByteArray.empty t208 t211) (rdOf ByteArray.empty t208 t213) t217 t218 _ ?side1 ?side2 A25.out).mono ?_); (case side1 => repeat (first | exact (Kd.zaw HR0.out (by repeat (first | (with_reducible first | exact HB.out | apply zad | apply zac | apply zae) | exact HB.out))) | (with_reducible refine Kd.zaC ?_ _) | (with_reducible refine Kd.zaD ?_ _) | (with_reducible refine Kd.zaQ ?_))); (case side2 => exact HC0.out); rintro e w30 ⟨rfl, hb⟩; have n0_ := zaa.mk (Kd.zaJ (by (with_reducible repeat (first | apply Kd.zax | apply Kd.zaB | apply Kd.zaK)); exact HO210.out) hb); have n1_ := zaa.mk (zal (by repeat (first | (with_reducible first | exact HB.out | apply zad | apply zac | apply zae) | exact HB.out)) hb); clear HO210; clear HB; have HO210 := n0_; have HB := n1_; clear n0_ n1_; (try clear hb); (try clear hb2); (try clear hk); (try clear hi)) | (go_at_call 18; (with_reducible refine (zaG.calls kj5 _ _ l0 (rdOf ByteArray.empty t208 t213) (rdOf ByteArray.empty t208 t211) t219 t220 _ ?side1 ?side2 A26.out).mono ?_); (case side1 => repeat (first | exact (Kd.zaw HR0.out HB.out) | (with_reducible refine Kd.zaC ?_ _) | (with_reducible refine Kd.zaD ?_ _) | (with_reducible refine Kd.zaQ ?_))); (case side2 => exact HC0.out); rintro e w31 ⟨rfl, hb⟩; have n0_ := zaa.mk (Kd.zaJ (by (with_reducible repeat (first | apply Kd.zax | apply Kd.zaB | apply Kd.zaK)); exact HO210.out) hb); have n1_ := zaa.mk (zal (by repeat (first | (with_reducible first | exact HB.out | apply zad | apply zac | apply zae) | exact HB.out)) hb); clear HO210; clear HB; have HO210 := n0_; have HB := n1_; clear n0_ n1_; (try clear hb); (try clear hb2); (try clear hk); (try clear hi)))
          repeat (go_quiet (first | (go_at_call 15; (with_reducible refine (zar.calls kj5 _ _ l0 t208 _ ?side1 ?side2 A15.out).mono ?_); (case side1 => repeat (first | exact (Kd.zaw HR0.out HB.out) | (with_reducible refine Kd.zaC ?_ _) | (with_reducible refine Kd.zaD ?_ _) | (with_reducible refine Kd.zaQ ?_))); (case side2 => exact HC0.out); rintro e w28 ⟨v209, rfl, ho0, hb⟩; have n0_ := zaa.mk (Kd.zbg ho0 (zaN (by repeat (first | (with_reducible first | exact HB.out | apply zad | apply zac | apply zae) | exact HB.out)))); have n1_ := zaa.mk (zal (by repeat (first | (with_reducible first | exact HB.out | apply zad | apply zac | apply zae) | exact HB.out)) hb); clear HB; have HO210 := n0_; have HB := n1_; clear n0_ n1_; (try clear hb); (try clear hb2); (try clear hk); (try clear hi); (try clear ho0); obtain ⟨Ao29, co29, eo29⟩ := Kd.za1 HO210.out; subst eo29) | (go_at_call 16; (with_reducible refine (zaL.calls a1 (t208.length : Int) t211 _ A16.out).mono ?_); rintro e w' ⟨rfl, ⟨nd, rfl⟩⟩; (try first | exact ⟨rfl, _, World.drewN_drewN _ _ _⟩ | exact ⟨rfl, _, Eq.trans (World.drewN_drewN _ _ _) (congrArg (World.drewN _) (Nat.add_assoc _ _ _))⟩); have p212 : 0 ≤ (t211 : Int) := of_decide_eq_true (by first | (with_reducible assumption) | assumption); have q212 : t211 < (t208.length : Int) := of_decide_eq_true (by first | (with_reducible assumption) | assumption); obtain ⟨ad212, e212, hx212_0⟩ := Kd.zbl (Kd.zav HO210.out).2.2 t211 p212 q212; cases e212; replace p212 := eq_true p212; replace q212 := eq_true q212) | (go_at_call 16; (with_reducible refine (zaL.calls a2 (t208.length : Int) t213 _ A19.out).mono ?_); rintro e w' ⟨rfl, ⟨nd, rfl⟩⟩; (try first | exact ⟨rfl, _, World.drewN_drewN _ _ _⟩ | exact ⟨rfl, _, Eq.trans (World.drewN_drewN _ _ _) (congrArg (World.drewN _) (Nat.add_assoc _ _ _))⟩); have p214 : 0 ≤ (t213 : Int) := of_decide_eq_true (by first | (with_reducible assumption) | assumption); have q214 : t213 < (t208.length : Int) := of_decide_eq_true (by first | (with_reducible assumption) | assumption); obtain ⟨ad214, e214, hx214_0⟩ := Kd.zbl (Kd.zav HO210.out).2.2 t213 p214 q214; obtain rfl : ad212 = ad214 := (by injection e214); replace p214 := eq_true p214; replace q214 := eq_true q214) | (go_at_call 16; (with_reducible refine (zaL.calls a3 (t208.length : Int) t215 _ A22.out).mono ?_); rintro e w' ⟨rfl, ⟨nd, rfl⟩⟩; (try first | exact ⟨rfl, _, World.drewN_drewN _ _ _⟩ | exact ⟨rfl, _, Eq.trans (World.drewN_drewN _ _ _) (congrArg (World.drewN _) (Nat.add_assoc _ _ _))⟩); have p216 : 0 ≤ (t215 : Int) := of_decide_eq_true (by first | (with_reducible assumption) | assumption); have q216 : t215 < (t208.length : Int) := of_decide_eq_true (by first | (with_reducible assumption) | assumption); obtain ⟨ad216, e216, hx216_0⟩ := Kd.zbl (Kd.zav HO210.out).2.2 t215 p216 q216; obtain rfl : ad212 = ad216 := (by injection e216); replace p216 := eq_true p216; replace q216 := eq_true q216) | (go_at_call 18; (with_reducible refine (zaG.calls kj5 _ _ l0 (rdOf ByteArray.empty t208 t211) (rdOf ByteArray.empty t208 t213) t217 t218 _ ?side1 ?side2 A25.out).mono ?_); (case side1 => repeat (first | exact (Kd.zaw HR0.out (by repeat (first | (with_reducible first | exact HB.out | apply zad | apply zac | apply zae) | exact HB.out))) | (with_reducible refine Kd.zaC ?_ _) | (with_reducible refine Kd.zaD ?_ _) | (with_reducible refine Kd.zaQ ?_))); (case side2 => exact HC0.out); rintro e w30 ⟨rfl, hb⟩; have n0_ := zaa.mk (Kd.zaJ (by (with_reducible repeat (first | apply Kd.zax | apply Kd.zaB | apply Kd.zaK)); exact HO210.out) hb); have n1_ := zaa.mk (zal (by repeat (first | (with_reducible first | exact HB.out | apply zad | apply zac | apply zae) | exact HB.out)) hb); clear HO210; clear HB; have HO210 := n0_; have HB := n1_; clear n0_ n1_; (try clear hb); (try clear hb2); (try clear hk); (try clear hi)) | (go_at_call 18; (with_reducible refine (zaG.calls kj5 _ _ l0 (rdOf ByteArray.empty t208 t213) (rdOf ByteArray.empty t208 t211) t219 t220 _ ?side1 ?side2 A26.out).mono ?_); (case side1 => repeat (first | exact (Kd.zaw HR0.out HB.out) | (with_reducible refine Kd.zaC ?_ _) | (with_reducible refine Kd.zaD ?_ _) | (with_reducible refine Kd.zaQ ?_))); (case side2 => exact HC0.out); rintro e w31 ⟨rfl, hb⟩; have n0_ := zaa.mk (Kd.zaJ (by (with_reducible repeat (first | apply Kd.zax | apply Kd.zaB | apply Kd.zaK)); exact HO210.out) hb); have n1_ := zaa.mk (zal (by repeat (first | (with_reducible first | exact HB.out | apply zad | apply zac | apply zae) | exact HB.out)) hb); clear HO210; clear HB; have HO210 := n0_; have HB := n1_; clear n0_ n1_; (try clear hb); (try clear hb2); (try clear hk); (try clear hi))); go_upto_region 8 with (first | (go_at_call 15; (with_reducible refine (zar.calls kj5 _ _ l0 t208 _ ?side1 ?side2 A15.out).mono ?_); (case side1 => repeat (first | exact (Kd.zaw HR0.out HB.out) | (with_reducible refine Kd.zaC ?_ _) | (with_reducible refine Kd.zaD ?_ _) | (with_reducible refine Kd.zaQ ?_))); (case side2 => exact HC0.out); rintro e w28 ⟨v209, rfl, ho0, hb⟩; have n0_ := zaa.mk (Kd.zbg ho0 (zaN (by repeat (first | (with_reducible first | exact HB.out | apply zad | apply zac | apply zae) | exact HB.out)))); have n1_ := zaa.mk (zal (by repeat (first | (with_reducible first | exact HB.out | apply zad | apply zac | apply zae) | exact HB.out)) hb); clear HB; have HO210 := n0_; have HB := n1_; clear n0_ n1_; (try clear hb); (try clear hb2); (try clear hk); (try clear hi); (try clear ho0); obtain ⟨Ao29, co29, eo29⟩ := Kd.za1 HO210.out; subst eo29) | (go_at_call 16; (with_reducible refine (zaL.calls a1 (t208.length : Int) t211 _ A16.out).mono ?_); rintro e w' ⟨rfl, ⟨nd, rfl⟩⟩; (try first | exact ⟨rfl, _, World.drewN_drewN _ _ _⟩ | exact ⟨rfl, _, Eq.trans (World.drewN_drewN _ _ _) (congrArg (World.drewN _) (Nat.add_assoc _ _ _))⟩); have p212 : 0 ≤ (t211 : Int) := of_decide_eq_true (by first | (with_reducible assumption) | assumption); have q212 : t211 < (t208.length : Int) := of_decide_eq_true (by first | (with_reducible assumption) | assumption); obtain ⟨ad212, e212, hx212_0⟩ := Kd.zbl (Kd.zav HO210.out).2.2 t211 p212 q212; cases e212; replace p212 := eq_true p212; replace q212 := eq_true q212) | (go_at_call 16; (with_reducible refine (zaL.calls a2 (t208.length : Int) t213 _ A19.out).mono ?_); rintro e w' ⟨rfl, ⟨nd, rfl⟩⟩; (try first | exact ⟨rfl, _, World.drewN_drewN _ _ _⟩ | exact ⟨rfl, _, Eq.trans (World.drewN_drewN _ _ _) (congrArg (World.drewN _) (Nat.add_assoc _ _ _))⟩); have p214 : 0 ≤ (t213 : Int) := of_decide_eq_true (by first | (with_reducible assumption) | assumption); have q214 : t213 < (t208.length : Int) := of_decide_eq_true (by first | (with_reducible assumption) | assumption); obtain ⟨ad214, e214, hx214_0⟩ := Kd.zbl (Kd.zav HO210.out).2.2 t213 p214 q214; obtain rfl : ad212 = ad214 := (by injection e214); replace p214 := eq_true p214; replace q214 := eq_true q214) | (go_at_call 16; (with_reducible refine (zaL.calls a3 (t208.length : Int) t215 _ A22.out).mono ?_); rintro e w' ⟨rfl, ⟨nd, rfl⟩⟩; (try first | exact ⟨rfl, _, World.drewN_drewN _ _ _⟩ | exact ⟨rfl, _, Eq.trans (World.drewN_drewN _ _ _) (congrArg (World.drewN _) (Nat.add_assoc _ _ _))⟩); have p216 : 0 ≤ (t215 : Int) := of_decide_eq_true (by first | (with_reducible assumption) | assumption); have q216 : t215 < (t208.length : Int) := of_decide_eq_true (by first | (with_reducible assumption) | assumption); obtain ⟨ad216, e216, hx216_0⟩ := Kd.zbl (Kd.zav HO210.out).2.2 t215 p216 q216; obtain rfl : ad212 = ad216 := (by injection e216); replace p216 := eq_true p216; replace q216 := eq_true q216) | (go_at_call 18; (with_reducible refine (zaG.calls kj5 _ _ l0 (rdOf ByteArray.empty t208 t211) (rdOf ByteArray.empty t208 t213) t217 t218 _ ?side1 ?side2 A25.out).mono ?_); (case side1 => repeat (first | exact (Kd.zaw HR0.out (by repeat (first | (with_reducible first | exact HB.out | apply zad | apply zac | apply zae) | exact HB.out))) | (with_reducible refine Kd.zaC ?_ _) | (with_reducible refine Kd.zaD ?_ _) | (with_reducible refine Kd.zaQ ?_))); (case side2 => exact HC0.out); rintro e w30 ⟨rfl, hb⟩; have n0_ := zaa.mk (Kd.zaJ (by (with_reducible repeat (first | apply Kd.zax | apply Kd.zaB | apply Kd.zaK)); exact HO210.out) hb); have n1_ := zaa.mk (zal (by repeat (first | (with_reducible first | exact HB.out | apply zad | apply zac | apply zae) | exact HB.out)) hb); clear HO210; clear HB; have HO210 := n0_; have HB := n1_; clear n0_ n1_; (try clear hb); (try clear hb2); (try clear hk); (try clear hi)) | (go_at_call 18; (with_reducible refine (zaG.calls kj5 _ _ l0 (rdOf ByteArray.empty t208 t213) (rdOf ByteArray.empty t208 t211) t219 t220 _ ?side1 ?side2 A26.out).mono ?_); (case side1 => repeat (first | exact (Kd.zaw HR0.out HB.out) | (with_reducible refine Kd.zaC ?_ _) | (with_reducible refine Kd.zaD ?_ _) | (with_reducible refine Kd.zaQ ?_))); (case side2 => exact HC0.out); rintro e w31 ⟨rfl, hb⟩; have n0_ := zaa.mk (Kd.zaJ (by (with_reducible repeat (first | apply Kd.zax | apply Kd.zaB | apply Kd.zaK)); exact HO210.out) hb); have n1_ := zaa.mk (zal (by repeat (first | (with_reducible first | exact HB.out | apply zad | apply zac | apply zae) | exact HB.out)) hb); clear HO210; clear HB; have HO210 := n0_; have HB := n1_; clear n0_ n1_; (try clear hb); (try clear hb2); (try clear hk); (try clear hi))))
          (try simp only [Act.put, List.setIfInBounds_toArray, List.set_cons_zero, List.set_cons_succ])
          go_cut [73] (fun v73 wc => ∃ (kq : Nat) (x73_26 : Bool), v73 = .bool x73_26 ∧ zaa (chaperonlaw06_SubtypeJoin.j1 kq l0 t204 (rdOf ByteArray.empty t208 t211) (rdOf ByteArray.empty t208 t213) (rdOf ByteArray.empty t208 t215) t217 t218 x73_26 = some r) ∧ zaa (kq ≤ kj5) ∧ zaa (Below w.heap.size w wc))
          case first =>
           have H := HC27.out
           clear HC27
           by_cases c32 : t217.toList = t219.toList
           ·
            rw [if_pos c32] at H
            have c32b0 : (t217.toList == t219.toList) = true := beq_iff_eq.mpr c32
            have c32b1 : (t217.toList != t219.toList) = false := bne_eq_false_iff_eq.mpr c32
            clear c32
            (first | rw [c32b0] | (simp only [i64_w, i32_w]; rw [c32b0]) | skip)
            as_aux_lemma =>
             have H' := zaa.mk H
             clear H
             go_wp2
             repeat (go_quiet (fail); try go_wp2)
             go_meet
             case rel => exact ⟨_, ((t218 != t220)), (by first | rfl | (simp; done) | (simp [*]; done)), H', ⟨by have := HJ5.out; first | omega | exact Nat.le_refl _⟩, ⟨by repeat (first | (with_reducible first | exact HB.out | apply zad | apply zac | apply zae) | exact HB.out)⟩⟩
           ·
            rw [if_neg c32] at H
            exact absurd H s9
          case rest =>
           clear HC27
           try clear c1
           try clear c2
           try clear p2
           try clear q2
           try clear hx2
           try clear c3
           try clear c5
           try clear c9
           try clear c14
           try clear c17
           try clear c17b0
           try clear c18
           try clear c18b0
           try clear c20
           try clear c20b0
           try clear c21
           try clear c21b0
           try clear p21
           try clear q21
           try clear hx21
           try clear c23
           try clear c23b0
           try clear c24
           try clear c24b0
           try clear c32
           try clear c32b0
           try clear c32b1
           try clear hx212_0
           try clear hx214_0
           try clear hx216_0
           try clear p2
           try clear p212
           try clear p214
           try clear p216
           try clear q212
           try clear q214
           try clear q216
           obtain ⟨kq, x73_26, rfl, HA, HJ26, HB⟩ := hcut
           cases kq with
           | zero => exact absurd HA.out (by simp [chaperonlaw06_SubtypeJoin.j1])
           | succ kj26 =>
            have H := HA.out
            clear HA
            simp only [chaperonlaw06_SubtypeJoin.j1] at H
            by_cases c33 : x73_26 = true
            ·
             subst c33
             have H1 : (none) = some r := by rw [if_pos rfl] at H; exact H
             clear H
             have H := H1
             clear H1
             exact absurd H s9
            ·
             replace c33 := Bool.eq_false_iff.mpr c33
             subst c33
             have H1 : ((zaj.f kj26 l0 (rdOf ByteArray.empty t208 t211) (rdOf ByteArray.empty t208 t215)).bind fun t221 => (if t221 = true then ((zaj.f kj26 l0 (rdOf ByteArray.empty t208 t213) (rdOf ByteArray.empty t208 t215)).bind fun t222 => (chaperonlaw06_SubtypeJoin.j2 kj26 l0 t204 (rdOf ByteArray.empty t208 t211) (rdOf ByteArray.empty t208 t213) (rdOf ByteArray.empty t208 t215) t217 t218 t222)) else (chaperonlaw06_SubtypeJoin.j2 kj26 l0 t204 (rdOf ByteArray.empty t208 t211) (rdOf ByteArray.empty t208 t213) (rdOf ByteArray.empty t208 t215) t217 t218 false))) = some r := by rw [if_neg (show ¬ (false = true) by decide)] at H; exact H
             clear H
             have H := H1
             clear H1
             have HC34 := zaa.mk H
             clear H
             go_upto_region 10 with (fail)
             repeat (go_quiet (fail); go_upto_region 10 with (fail))
             go_cut [18] (fun v18 wc => ∃ (kq : Nat) (x18_33 : Bool), v18 = .bool x18_33 ∧ zaa (chaperonlaw06_SubtypeJoin.j2 kq l0 t204 (rdOf ByteArray.empty t208 t211) (rdOf ByteArray.empty t208 t213) (rdOf ByteArray.empty t208 t215) t217 t218 x18_33 = some r) ∧ zaa (kq ≤ kj26) ∧ zaa (Below w.heap.size w wc))
             case first =>
              have H := HC34.out
              clear HC34
              replace H := Option.bind_eq_some_iff.mp H
              obtain ⟨t221, A350, H⟩ := H
              replace H : (if t221 = true then ((zaj.f kj26 l0 (rdOf ByteArray.empty t208 t213) (rdOf ByteArray.empty t208 t215)).bind fun t222 => (chaperonlaw06_SubtypeJoin.j2 kj26 l0 t204 (rdOf ByteArray.empty t208 t211) (rdOf ByteArray.empty t208 t213) (rdOf ByteArray.empty t208 t215) t217 t218 t222)) else (chaperonlaw06_SubtypeJoin.j2 kj26 l0 t204 (rdOf ByteArray.empty t208 t211) (rdOf ByteArray.empty t208 t213) (rdOf ByteArray.empty t208 t215) t217 t218 false)) = some r := H
              have A35 := zaa.mk A350
              clear A350
              by_cases c36 : t221 = true
              ·
               subst c36
               have H1 : ((zaj.f kj26 l0 (rdOf ByteArray.empty t208 t213) (rdOf ByteArray.empty t208 t215)).bind fun t222 => (chaperonlaw06_SubtypeJoin.j2 kj26 l0 t204 (rdOf ByteArray.empty t208 t211) (rdOf ByteArray.empty t208 t213) (rdOf ByteArray.empty t208 t215) t217 t218 t222)) = some r := by rw [if_pos rfl] at H; exact H
               clear H
               have H := H1
               clear H1
               replace H := Option.bind_eq_some_iff.mp H
               obtain ⟨t222, A370, H⟩ := H
               replace H : (chaperonlaw06_SubtypeJoin.j2 kj26 l0 t204 (rdOf ByteArray.empty t208 t211) (rdOf ByteArray.empty t208 t213) (rdOf ByteArray.empty t208 t215) t217 t218 t222) = some r := H
               have A37 := zaa.mk A370
               clear A370
               as_aux_lemma =>
                have H' := zaa.mk H
                clear H
                go_wp2_with (first | (go_at_call 8; (with_reducible refine (zaj.calls kj26 _ _ l0 (rdOf ByteArray.empty t208 t211) (rdOf ByteArray.empty t208 t215) true _ ?side1 ?side2 A35.out).mono ?_); (case side1 => repeat (first | exact (Kd.zaw HR0.out HB.out) | (with_reducible refine Kd.zaC ?_ _) | (with_reducible refine Kd.zaD ?_ _) | (with_reducible refine Kd.zaQ ?_))); (case side2 => exact HC0.out); rintro e w38 ⟨rfl, hb⟩; have n0_ := zaa.mk (zal (by repeat (first | (with_reducible first | exact HB.out | apply zad | apply zac | apply zae) | exact HB.out)) hb); clear HB; have HB := n0_; clear n0_; (try clear hb); (try clear hb2); (try clear hk); (try clear hi)) | (go_at_call 8; (with_reducible refine (zaj.calls kj26 _ _ l0 (rdOf ByteArray.empty t208 t213) (rdOf ByteArray.empty t208 t215) t222 _ ?side1 ?side2 A37.out).mono ?_); (case side1 => repeat (first | exact (Kd.zaw HR0.out HB.out) | (with_reducible refine Kd.zaC ?_ _) | (with_reducible refine Kd.zaD ?_ _) | (with_reducible refine Kd.zaQ ?_))); (case side2 => exact HC0.out); rintro e w39 ⟨rfl, hb⟩; have n0_ := zaa.mk (zal (by repeat (first | (with_reducible first | exact HB.out | apply zad | apply zac | apply zae) | exact HB.out)) hb); clear HB; have HB := n0_; clear n0_; (try clear hb); (try clear hb2); (try clear hk); (try clear hi)))
                repeat (go_quiet (first | (go_at_call 8; (with_reducible refine (zaj.calls kj26 _ _ l0 (rdOf ByteArray.empty t208 t211) (rdOf ByteArray.empty t208 t215) true _ ?side1 ?side2 A35.out).mono ?_); (case side1 => repeat (first | exact (Kd.zaw HR0.out HB.out) | (with_reducible refine Kd.zaC ?_ _) | (with_reducible refine Kd.zaD ?_ _) | (with_reducible refine Kd.zaQ ?_))); (case side2 => exact HC0.out); rintro e w38 ⟨rfl, hb⟩; have n0_ := zaa.mk (zal (by repeat (first | (with_reducible first | exact HB.out | apply zad | apply zac | apply zae) | exact HB.out)) hb); clear HB; have HB := n0_; clear n0_; (try clear hb); (try clear hb2); (try clear hk); (try clear hi)) | (go_at_call 8; (with_reducible refine (zaj.calls kj26 _ _ l0 (rdOf ByteArray.empty t208 t213) (rdOf ByteArray.empty t208 t215) t222 _ ?side1 ?side2 A37.out).mono ?_); (case side1 => repeat (first | exact (Kd.zaw HR0.out HB.out) | (with_reducible refine Kd.zaC ?_ _) | (with_reducible refine Kd.zaD ?_ _) | (with_reducible refine Kd.zaQ ?_))); (case side2 => exact HC0.out); rintro e w39 ⟨rfl, hb⟩; have n0_ := zaa.mk (zal (by repeat (first | (with_reducible first | exact HB.out | apply zad | apply zac | apply zae) | exact HB.out)) hb); clear HB; have HB := n0_; clear n0_; (try clear hb); (try clear hb2); (try clear hk); (try clear hi))); try go_wp2_with (first | (go_at_call 8; (with_reducible refine (zaj.calls kj26 _ _ l0 (rdOf ByteArray.empty t208 t211) (rdOf ByteArray.empty t208 t215) true _ ?side1 ?side2 A35.out).mono ?_); (case side1 => repeat (first | exact (Kd.zaw HR0.out HB.out) | (with_reducible refine Kd.zaC ?_ _) | (with_reducible refine Kd.zaD ?_ _) | (with_reducible refine Kd.zaQ ?_))); (case side2 => exact HC0.out); rintro e w38 ⟨rfl, hb⟩; have n0_ := zaa.mk (zal (by repeat (first | (with_reducible first | exact HB.out | apply zad | apply zac | apply zae) | exact HB.out)) hb); clear HB; have HB := n0_; clear n0_; (try clear hb); (try clear hb2); (try clear hk); (try clear hi)) | (go_at_call 8; (with_reducible refine (zaj.calls kj26 _ _ l0 (rdOf ByteArray.empty t208 t213) (rdOf ByteArray.empty t208 t215) t222 _ ?side1 ?side2 A37.out).mono ?_); (case side1 => repeat (first | exact (Kd.zaw HR0.out HB.out) | (with_reducible refine Kd.zaC ?_ _) | (with_reducible refine Kd.zaD ?_ _) | (with_reducible refine Kd.zaQ ?_))); (case side2 => exact HC0.out); rintro e w39 ⟨rfl, hb⟩; have n0_ := zaa.mk (zal (by repeat (first | (with_reducible first | exact HB.out | apply zad | apply zac | apply zae) | exact HB.out)) hb); clear HB; have HB := n0_; clear n0_; (try clear hb); (try clear hb2); (try clear hk); (try clear hi))))
                go_meet
                case rel => exact ⟨_, (t222), (by first | rfl | (simp; done) | (simp [*]; done)), H', ⟨by have := HJ5.out; have := HJ26.out; first | omega | exact Nat.le_refl _⟩, ⟨by repeat (first | (with_reducible first | exact HB.out | apply zad | apply zac | apply zae) | exact HB.out)⟩⟩
              ·
               replace c36 := Bool.eq_false_iff.mpr c36
               subst c36
               have H1 : (chaperonlaw06_SubtypeJoin.j2 kj26 l0 t204 (rdOf ByteArray.empty t208 t211) (rdOf ByteArray.empty t208 t213) (rdOf ByteArray.empty t208 t215) t217 t218 false) = some r := by rw [if_neg (show ¬ (false = true) by decide)] at H; exact H
               clear H
               have H := H1
               clear H1
               as_aux_lemma =>
                have H' := zaa.mk H
                clear H
                go_wp2_with (first | (go_at_call 8; (with_reducible refine (zaj.calls kj26 _ _ l0 (rdOf ByteArray.empty t208 t211) (rdOf ByteArray.empty t208 t215) false _ ?side1 ?side2 A35.out).mono ?_); (case side1 => repeat (first | exact (Kd.zaw HR0.out HB.out) | (with_reducible refine Kd.zaC ?_ _) | (with_reducible refine Kd.zaD ?_ _) | (with_reducible refine Kd.zaQ ?_))); (case side2 => exact HC0.out); rintro e w40 ⟨rfl, hb⟩; have n0_ := zaa.mk (zal (by repeat (first | (with_reducible first | exact HB.out | apply zad | apply zac | apply zae) | exact HB.out)) hb); clear HB; have HB := n0_; clear n0_; (try clear hb); (try clear hb2); (try clear hk); (try clear hi)))
                repeat (go_quiet (first | (go_at_call 8; (with_reducible refine (zaj.calls kj26 _ _ l0 (rdOf ByteArray.empty t208 t211) (rdOf ByteArray.empty t208 t215) false _ ?side1 ?side2 A35.out).mono ?_); (case side1 => repeat (first | exact (Kd.zaw HR0.out HB.out) | (with_reducible refine Kd.zaC ?_ _) | (with_reducible refine Kd.zaD ?_ _) | (with_reducible refine Kd.zaQ ?_))); (case side2 => exact HC0.out); rintro e w40 ⟨rfl, hb⟩; have n0_ := zaa.mk (zal (by repeat (first | (with_reducible first | exact HB.out | apply zad | apply zac | apply zae) | exact HB.out)) hb); clear HB; have HB := n0_; clear n0_; (try clear hb); (try clear hb2); (try clear hk); (try clear hi))); try go_wp2_with (first | (go_at_call 8; (with_reducible refine (zaj.calls kj26 _ _ l0 (rdOf ByteArray.empty t208 t211) (rdOf ByteArray.empty t208 t215) false _ ?side1 ?side2 A35.out).mono ?_); (case side1 => repeat (first | exact (Kd.zaw HR0.out HB.out) | (with_reducible refine Kd.zaC ?_ _) | (with_reducible refine Kd.zaD ?_ _) | (with_reducible refine Kd.zaQ ?_))); (case side2 => exact HC0.out); rintro e w40 ⟨rfl, hb⟩; have n0_ := zaa.mk (zal (by repeat (first | (with_reducible first | exact HB.out | apply zad | apply zac | apply zae) | exact HB.out)) hb); clear HB; have HB := n0_; clear n0_; (try clear hb); (try clear hb2); (try clear hk); (try clear hi))))
                go_meet
                case rel => exact ⟨_, (false), (by first | rfl | (simp; done) | (simp [*]; done)), H', ⟨by have := HJ5.out; have := HJ26.out; first | omega | exact Nat.le_refl _⟩, ⟨by repeat (first | (with_reducible first | exact HB.out | apply zad | apply zac | apply zae) | exact HB.out)⟩⟩
             case rest =>
              clear HC34
              try clear c1
              try clear c2
              try clear p2
              try clear q2
              try clear hx2
              try clear c3
              try clear c5
              try clear c9
              try clear c14
              try clear c17
              try clear c17b0
              try clear c18
              try clear c18b0
              try clear c20
              try clear c20b0
              try clear c21
              try clear c21b0
              try clear p21
              try clear q21
              try clear hx21
              try clear c23
              try clear c23b0
              try clear c24
              try clear c24b0
              try clear c32
              try clear c32b0
              try clear c32b1
              try clear c33
              try clear c36
              try clear hx212_0
              try clear hx214_0
              try clear hx216_0
              try clear p2
              try clear p21
              try clear p212
              try clear p214
              try clear p216
              try clear q2
              try clear q21
              try clear q212
              try clear q214
              try clear q216
              obtain ⟨kq, x18_33, rfl, HA, HJ33, HB⟩ := hcut
              cases kq with
              | zero => exact absurd HA.out (by simp [chaperonlaw06_SubtypeJoin.j2])
              | succ kj33 =>
               have H := HA.out
               clear HA
               simp only [chaperonlaw06_SubtypeJoin.j2] at H
               by_cases c41 : t218 = true
               ·
                subst c41
                have H1 : (if t204 = true then ((zaj.f kj33 l0 (rdOf ByteArray.empty t208 t211) t217).bind fun t223 => (if t223 = true then ((zaj.f kj33 l0 (rdOf ByteArray.empty t208 t213) t217).bind fun t224 => (if t224 = true then (if x18_33 = true then ((zaj.f kj33 l0 t217 (rdOf ByteArray.empty t208 t215)).bind fun t225 => (some t225)) else (some true)) else (none))) else (none))) else (none)) = some r := by rw [if_pos rfl] at H; exact H
                clear H
                have H := H1
                clear H1
                by_cases c42 : t204 = true
                ·
                 subst c42
                 have H1 : ((zaj.f kj33 l0 (rdOf ByteArray.empty t208 t211) t217).bind fun t223 => (if t223 = true then ((zaj.f kj33 l0 (rdOf ByteArray.empty t208 t213) t217).bind fun t224 => (if t224 = true then (if x18_33 = true then ((zaj.f kj33 l0 t217 (rdOf ByteArray.empty t208 t215)).bind fun t225 => (some t225)) else (some true)) else (none))) else (none))) = some r := by rw [if_pos rfl] at H; exact H
                 clear H
                 have H := H1
                 clear H1
                 replace H := Option.bind_eq_some_iff.mp H
                 obtain ⟨t223, A430, H⟩ := H
                 replace H : (if t223 = true then ((zaj.f kj33 l0 (rdOf ByteArray.empty t208 t213) t217).bind fun t224 => (if t224 = true then (if x18_33 = true then ((zaj.f kj33 l0 t217 (rdOf ByteArray.empty t208 t215)).bind fun t225 => (some t225)) else (some true)) else (none))) else (none)) = some r := H
                 have A43 := zaa.mk A430
                 clear A430
                 by_cases c44 : t223 = true
                 ·
                  subst c44
                  have H1 : ((zaj.f kj33 l0 (rdOf ByteArray.empty t208 t213) t217).bind fun t224 => (if t224 = true then (if x18_33 = true then ((zaj.f kj33 l0 t217 (rdOf ByteArray.empty t208 t215)).bind fun t225 => (some t225)) else (some true)) else (none))) = some r := by rw [if_pos rfl] at H; exact H
                  clear H
                  have H := H1
                  clear H1
                  replace H := Option.bind_eq_some_iff.mp H
                  obtain ⟨t224, A450, H⟩ := H
                  replace H : (if t224 = true then (if x18_33 = true then ((zaj.f kj33 l0 t217 (rdOf ByteArray.empty t208 t215)).bind fun t225 => (some t225)) else (some true)) else (none)) = some r := H
                  have A45 := zaa.mk A450
                  clear A450
                  by_cases c46 : t224 = true
                  ·
                   subst c46
                   have H1 : (if x18_33 = true then ((zaj.f kj33 l0 t217 (rdOf ByteArray.empty t208 t215)).bind fun t225 => (some t225)) else (some true)) = some r := by rw [if_pos rfl] at H; exact H
                   clear H
                   have H := H1
                   clear H1
                   by_cases c47 : x18_33 = true
                   ·
                    subst c47
                    have H1 : ((zaj.f kj33 l0 t217 (rdOf ByteArray.empty t208 t215)).bind fun t225 => (some t225)) = some r := by rw [if_pos rfl] at H; exact H
                    clear H
                    have H := H1
                    clear H1
                    replace H := Option.bind_eq_some_iff.mp H
                    obtain ⟨t225, A480, H⟩ := H
                    replace H : (some t225) = some r := H
                    have A48 := zaa.mk A480
                    clear A480
                    as_aux_lemma =>
                     obtain rfl := Option.some.inj H
                     go_wp2_with (first | (go_at_call 8; (with_reducible refine (zaj.calls kj33 _ _ l0 (rdOf ByteArray.empty t208 t211) t217 true _ ?side1 ?side2 A43.out).mono ?_); (case side1 => repeat (first | exact (Kd.zaw HR0.out HB.out) | (with_reducible refine Kd.zaC ?_ _) | (with_reducible refine Kd.zaD ?_ _) | (with_reducible refine Kd.zaQ ?_))); (case side2 => exact HC0.out); rintro e w49 ⟨rfl, hb⟩; have n0_ := zaa.mk (zal (by repeat (first | (with_reducible first | exact HB.out | apply zad | apply zac | apply zae) | exact HB.out)) hb); clear HB; have HB := n0_; clear n0_; (try clear hb); (try clear hb2); (try clear hk); (try clear hi)) | (go_at_call 8; (with_reducible refine (zaj.calls kj33 _ _ l0 (rdOf ByteArray.empty t208 t213) t217 true _ ?side1 ?side2 A45.out).mono ?_); (case side1 => repeat (first | exact (Kd.zaw HR0.out HB.out) | (with_reducible refine Kd.zaC ?_ _) | (with_reducible refine Kd.zaD ?_ _) | (with_reducible refine Kd.zaQ ?_))); (case side2 => exact HC0.out); rintro e w50 ⟨rfl, hb⟩; have n0_ := zaa.mk (zal (by repeat (first | (with_reducible first | exact HB.out | apply zad | apply zac | apply zae) | exact HB.out)) hb); clear HB; have HB := n0_; clear n0_; (try clear hb); (try clear hb2); (try clear hk); (try clear hi)) | (go_at_call 8; (with_reducible refine (zaj.calls kj33 _ _ l0 t217 (rdOf ByteArray.empty t208 t215) t225 _ ?side1 ?side2 A48.out).mono ?_); (case side1 => repeat (first | exact (Kd.zaw HR0.out HB.out) | (with_reducible refine Kd.zaC ?_ _) | (with_reducible refine Kd.zaD ?_ _) | (with_reducible refine Kd.zaQ ?_))); (case side2 => exact HC0.out); rintro e w51 ⟨rfl, hb⟩; have n0_ := zaa.mk (zal (by repeat (first | (with_reducible first | exact HB.out | apply zad | apply zac | apply zae) | exact HB.out)) hb); clear HB; have HB := n0_; clear n0_; (try clear hb); (try clear hb2); (try clear hk); (try clear hi)))
                     repeat (go_quiet (first | (go_at_call 8; (with_reducible refine (zaj.calls kj33 _ _ l0 (rdOf ByteArray.empty t208 t211) t217 true _ ?side1 ?side2 A43.out).mono ?_); (case side1 => repeat (first | exact (Kd.zaw HR0.out HB.out) | (with_reducible refine Kd.zaC ?_ _) | (with_reducible refine Kd.zaD ?_ _) | (with_reducible refine Kd.zaQ ?_))); (case side2 => exact HC0.out); rintro e w49 ⟨rfl, hb⟩; have n0_ := zaa.mk (zal (by repeat (first | (with_reducible first | exact HB.out | apply zad | apply zac | apply zae) | exact HB.out)) hb); clear HB; have HB := n0_; clear n0_; (try clear hb); (try clear hb2); (try clear hk); (try clear hi)) | (go_at_call 8; (with_reducible refine (zaj.calls kj33 _ _ l0 (rdOf ByteArray.empty t208 t213) t217 true _ ?side1 ?side2 A45.out).mono ?_); (case side1 => repeat (first | exact (Kd.zaw HR0.out HB.out) | (with_reducible refine Kd.zaC ?_ _) | (with_reducible refine Kd.zaD ?_ _) | (with_reducible refine Kd.zaQ ?_))); (case side2 => exact HC0.out); rintro e w50 ⟨rfl, hb⟩; have n0_ := zaa.mk (zal (by repeat (first | (with_reducible first | exact HB.out | apply zad | apply zac | apply zae) | exact HB.out)) hb); clear HB; have HB := n0_; clear n0_; (try clear hb); (try clear hb2); (try clear hk); (try clear hi)) | (go_at_call 8; (with_reducible refine (zaj.calls kj33 _ _ l0 t217 (rdOf ByteArray.empty t208 t215) t225 _ ?side1 ?side2 A48.out).mono ?_); (case side1 => repeat (first | exact (Kd.zaw HR0.out HB.out) | (with_reducible refine Kd.zaC ?_ _) | (with_reducible refine Kd.zaD ?_ _) | (with_reducible refine Kd.zaQ ?_))); (case side2 => exact HC0.out); rintro e w51 ⟨rfl, hb⟩; have n0_ := zaa.mk (zal (by repeat (first | (with_reducible first | exact HB.out | apply zad | apply zac | apply zae) | exact HB.out)) hb); clear HB; have HB := n0_; clear n0_; (try clear hb); (try clear hb2); (try clear hk); (try clear hi))); try go_wp2_with (first | (go_at_call 8; (with_reducible refine (zaj.calls kj33 _ _ l0 (rdOf ByteArray.empty t208 t211) t217 true _ ?side1 ?side2 A43.out).mono ?_); (case side1 => repeat (first | exact (Kd.zaw HR0.out HB.out) | (with_reducible refine Kd.zaC ?_ _) | (with_reducible refine Kd.zaD ?_ _) | (with_reducible refine Kd.zaQ ?_))); (case side2 => exact HC0.out); rintro e w49 ⟨rfl, hb⟩; have n0_ := zaa.mk (zal (by repeat (first | (with_reducible first | exact HB.out | apply zad | apply zac | apply zae) | exact HB.out)) hb); clear HB; have HB := n0_; clear n0_; (try clear hb); (try clear hb2); (try clear hk); (try clear hi)) | (go_at_call 8; (with_reducible refine (zaj.calls kj33 _ _ l0 (rdOf ByteArray.empty t208 t213) t217 true _ ?side1 ?side2 A45.out).mono ?_); (case side1 => repeat (first | exact (Kd.zaw HR0.out HB.out) | (with_reducible refine Kd.zaC ?_ _) | (with_reducible refine Kd.zaD ?_ _) | (with_reducible refine Kd.zaQ ?_))); (case side2 => exact HC0.out); rintro e w50 ⟨rfl, hb⟩; have n0_ := zaa.mk (zal (by repeat (first | (with_reducible first | exact HB.out | apply zad | apply zac | apply zae) | exact HB.out)) hb); clear HB; have HB := n0_; clear n0_; (try clear hb); (try clear hb2); (try clear hk); (try clear hi)) | (go_at_call 8; (with_reducible refine (zaj.calls kj33 _ _ l0 t217 (rdOf ByteArray.empty t208 t215) t225 _ ?side1 ?side2 A48.out).mono ?_); (case side1 => repeat (first | exact (Kd.zaw HR0.out HB.out) | (with_reducible refine Kd.zaC ?_ _) | (with_reducible refine Kd.zaD ?_ _) | (with_reducible refine Kd.zaQ ?_))); (case side2 => exact HC0.out); rintro e w51 ⟨rfl, hb⟩; have n0_ := zaa.mk (zal (by repeat (first | (with_reducible first | exact HB.out | apply zad | apply zac | apply zae) | exact HB.out)) hb); clear HB; have HB := n0_; clear n0_; (try clear hb); (try clear hb2); (try clear hk); (try clear hi))))
                     go_ret
                     exact ⟨by first | rfl | (simp [zaT, zaS] <;> rfl) | (simp [*, zaT, zaS] <;> rfl), by repeat (first | (with_reducible first | exact HB.out | apply zad | apply zac | apply zae) | exact HB.out)⟩
                   ·
                    replace c47 := Bool.eq_false_iff.mpr c47
                    subst c47
                    have H1 : (some true) = some r := by rw [if_neg (show ¬ (false = true) by decide)] at H; exact H
                    clear H
                    have H := H1
                    clear H1
                    as_aux_lemma =>
                     obtain rfl := Option.some.inj H
                     go_wp2_with (first | (go_at_call 8; (with_reducible refine (zaj.calls kj33 _ _ l0 (rdOf ByteArray.empty t208 t211) t217 true _ ?side1 ?side2 A43.out).mono ?_); (case side1 => repeat (first | exact (Kd.zaw HR0.out HB.out) | (with_reducible refine Kd.zaC ?_ _) | (with_reducible refine Kd.zaD ?_ _) | (with_reducible refine Kd.zaQ ?_))); (case side2 => exact HC0.out); rintro e w52 ⟨rfl, hb⟩; have n0_ := zaa.mk (zal (by repeat (first | (with_reducible first | exact HB.out | apply zad | apply zac | apply zae) | exact HB.out)) hb); clear HB; have HB := n0_; clear n0_; (try clear hb); (try clear hb2); (try clear hk); (try clear hi)) | (go_at_call 8; (with_reducible refine (zaj.calls kj33 _ _ l0 (rdOf ByteArray.empty t208 t213) t217 true _ ?side1 ?side2 A45.out).mono ?_); (case side1 => repeat (first | exact (Kd.zaw HR0.out HB.out) | (with_reducible refine Kd.zaC ?_ _) | (with_reducible refine Kd.zaD ?_ _) | (with_reducible refine Kd.zaQ ?_))); (case side2 => exact HC0.out); rintro e w53 ⟨rfl, hb⟩; have n0_ := zaa.mk (zal (by repeat (first | (with_reducible first | exact HB.out | apply zad | apply zac | apply zae) | exact HB.out)) hb); clear HB; have HB := n0_; clear n0_; (try clear hb); (try clear hb2); (try clear hk); (try clear hi)))
                     repeat (go_quiet (first | (go_at_call 8; (with_reducible refine (zaj.calls kj33 _ _ l0 (rdOf ByteArray.empty t208 t211) t217 true _ ?side1 ?side2 A43.out).mono ?_); (case side1 => repeat (first | exact (Kd.zaw HR0.out HB.out) | (with_reducible refine Kd.zaC ?_ _) | (with_reducible refine Kd.zaD ?_ _) | (with_reducible refine Kd.zaQ ?_))); (case side2 => exact HC0.out); rintro e w52 ⟨rfl, hb⟩; have n0_ := zaa.mk (zal (by repeat (first | (with_reducible first | exact HB.out | apply zad | apply zac | apply zae) | exact HB.out)) hb); clear HB; have HB := n0_; clear n0_; (try clear hb); (try clear hb2); (try clear hk); (try clear hi)) | (go_at_call 8; (with_reducible refine (zaj.calls kj33 _ _ l0 (rdOf ByteArray.empty t208 t213) t217 true _ ?side1 ?side2 A45.out).mono ?_); (case side1 => repeat (first | exact (Kd.zaw HR0.out HB.out) | (with_reducible refine Kd.zaC ?_ _) | (with_reducible refine Kd.zaD ?_ _) | (with_reducible refine Kd.zaQ ?_))); (case side2 => exact HC0.out); rintro e w53 ⟨rfl, hb⟩; have n0_ := zaa.mk (zal (by repeat (first | (with_reducible first | exact HB.out | apply zad | apply zac | apply zae) | exact HB.out)) hb); clear HB; have HB := n0_; clear n0_; (try clear hb); (try clear hb2); (try clear hk); (try clear hi))); try go_wp2_with (first | (go_at_call 8; (with_reducible refine (zaj.calls kj33 _ _ l0 (rdOf ByteArray.empty t208 t211) t217 true _ ?side1 ?side2 A43.out).mono ?_); (case side1 => repeat (first | exact (Kd.zaw HR0.out HB.out) | (with_reducible refine Kd.zaC ?_ _) | (with_reducible refine Kd.zaD ?_ _) | (with_reducible refine Kd.zaQ ?_))); (case side2 => exact HC0.out); rintro e w52 ⟨rfl, hb⟩; have n0_ := zaa.mk (zal (by repeat (first | (with_reducible first | exact HB.out | apply zad | apply zac | apply zae) | exact HB.out)) hb); clear HB; have HB := n0_; clear n0_; (try clear hb); (try clear hb2); (try clear hk); (try clear hi)) | (go_at_call 8; (with_reducible refine (zaj.calls kj33 _ _ l0 (rdOf ByteArray.empty t208 t213) t217 true _ ?side1 ?side2 A45.out).mono ?_); (case side1 => repeat (first | exact (Kd.zaw HR0.out HB.out) | (with_reducible refine Kd.zaC ?_ _) | (with_reducible refine Kd.zaD ?_ _) | (with_reducible refine Kd.zaQ ?_))); (case side2 => exact HC0.out); rintro e w53 ⟨rfl, hb⟩; have n0_ := zaa.mk (zal (by repeat (first | (with_reducible first | exact HB.out | apply zad | apply zac | apply zae) | exact HB.out)) hb); clear HB; have HB := n0_; clear n0_; (try clear hb); (try clear hb2); (try clear hk); (try clear hi))))
                     go_ret
                     exact ⟨by first | rfl | (simp [zaT, zaS] <;> rfl) | (simp [*, zaT, zaS] <;> rfl), by repeat (first | (with_reducible first | exact HB.out | apply zad | apply zac | apply zae) | exact HB.out)⟩
                  ·
                   replace c46 := Bool.eq_false_iff.mpr c46
                   subst c46
                   have H1 : (none) = some r := by rw [if_neg (show ¬ (false = true) by decide)] at H; exact H
                   clear H
                   have H := H1
                   clear H1
                   exact absurd H s9
                 ·
                  replace c44 := Bool.eq_false_iff.mpr c44
                  subst c44
                  have H1 : (none) = some r := by rw [if_neg (show ¬ (false = true) by decide)] at H; exact H
                  clear H
                  have H := H1
                  clear H1
                  exact absurd H s9
                ·
                 replace c42 := Bool.eq_false_iff.mpr c42
                 subst c42
                 have H1 : (none) = some r := by rw [if_neg (show ¬ (false = true) by decide)] at H; exact H
                 clear H
                 have H := H1
                 clear H1
                 exact absurd H s9
               ·
                replace c41 := Bool.eq_false_iff.mpr c41
                subst c41
                have H1 : (if t204 = true then (if t217.toList = ([] : List UInt8) then (some (!x18_33)) else (none)) else (none)) = some r := by rw [if_neg (show ¬ (false = true) by decide)] at H; exact H
                clear H
                have H := H1
                clear H1
                by_cases c54 : t204 = true
                ·
                 subst c54
                 have H1 : (if t217.toList = ([] : List UInt8) then (some (!x18_33)) else (none)) = some r := by rw [if_pos rfl] at H; exact H
                 clear H
                 have H := H1
                 clear H1
                 by_cases c55 : t217.toList = ([] : List UInt8)
                 ·
                  rw [if_pos c55] at H
                  have c55b0 : (t217.toList == ([] : List UInt8)) = true := beq_iff_eq.mpr c55
                  have c55b1 : (t217.toList != ([] : List UInt8)) = false := bne_eq_false_iff_eq.mpr c55
                  clear c55
                  as_aux_lemma =>
                   obtain rfl := Option.some.inj H
                   go_wp2
                   repeat (go_quiet (fail); try go_wp2)
                   go_ret
                   exact ⟨by first | rfl | (simp [zaT, zaS] <;> rfl) | (simp [*, zaT, zaS] <;> rfl), by repeat (first | (with_reducible first | exact HB.out | apply zad | apply zac | apply zae) | exact HB.out)⟩
                 ·
                  rw [if_neg c55] at H
                  exact absurd H s9
                ·
                 replace c54 := Bool.eq_false_iff.mpr c54
                 subst c54
                 have H1 : (none) = some r := by rw [if_neg (show ¬ (false = true) by decide)] at H; exact H
                 clear H
                 have H := H1
                 clear H1
                 exact absurd H s9
         ·
          rw [if_neg c24] at H
          exact absurd H s9
        ·
         rw [if_neg c23] at H
         exact absurd H s9
       ·
        rw [if_neg c21] at H
        exact absurd H s9
      ·
       rw [if_neg c20] at H
       exact absurd H s9
     ·
      rw [if_neg c18] at H
      exact absurd H s9
    ·
     rw [if_neg c17] at H
     exact absurd H s9
end Go.Proofs.YtofoegknealilaaDoor.PAll
end

section
namespace Go.Proofs.YtofoegknealilaaDoor.PAll
open Go.RowKit Go.Proofs.YtofoegknealilaaDoorW.PrintWords Go.Proofs.YtofoegknealilaaDoorW.PrintLast Go.Proofs.YtofoegknealilaaDoorOpen
def chaperonlaw06_SubtypeJoin.Pure : Prop := ∀ (l0 : List (S44)) (a1 : Int) (a2 : Int) (a3 : Int), l0.length ≤ maxLen → (∀ x ∈ l0, wf44 x) → (Lit.int .i64 a1).wf = true → (Lit.int .i64 a2).wf = true → (Lit.int .i64 a3).wf = true → ∃ k, chaperonlaw06_SubtypeJoin.f k l0 a1 a2 a3 = some true
end Go.Proofs.YtofoegknealilaaDoor.PAll
end

section
namespace Go.Proofs.YtofoegknealilaaDoorEv
def Evn {α : Type} (g : Nat → Option α) (v : α) : Prop := ∃ K, ∀ k, K ≤ k → g k = some v
section
variable {α β : Type}
theorem Evn.ret (v : α) : Evn (fun _ => some v) v := ⟨0, fun _ _ => rfl⟩
theorem Evn.bind {g : Nat → Option α} {h : Nat → α → Option β} {a : α} {b : β} (hg : Evn g a) (hh : Evn (fun k => h k a) b) : Evn (fun k => (g k).bind fun x => h k x) b := by
 obtain ⟨K1, h1⟩ := hg
 obtain ⟨K2, h2⟩ := hh
 exact ⟨max K1 K2, fun k hk => by show (g k).bind (fun x => h k x) = some b; rw [h1 k o9]; exact h2 k o9⟩
theorem Evn.cbind {a : Option α} {h : Nat → α → Option β} {v : α} {b : β} (ha : a = some v) (hh : Evn (fun k => h k v) b) : Evn (fun k => a.bind fun x => h k x) b := by
 subst ha
 exact hh
theorem Evn.succ {g : Nat → Option α} {v : α} (h : Evn (fun k => g (k + 1)) v) : Evn g v := by
 obtain ⟨K, h⟩ := h
 exact ⟨K + 1, fun k hk => by
  obtain ⟨j, rfl⟩ : ∃ j, k = j + 1 := ⟨k - 1, by omega⟩
  exact h j o9⟩
theorem Evn.congr {g g' : Nat → Option α} {v : α} (e : ∀ k, g k = g' k) (h : Evn g' v) : Evn g v := by
 obtain ⟨K, h⟩ := h
 exact ⟨K, fun k hk => (e k).trans (h k hk)⟩
theorem Evn.pos {p : Prop} [Decidable p] {g h : Nat → Option α} {v : α} (hp : p) (hg : Evn g v) : Evn (fun k => if p then g k else h k) v := Evn.congr (fun k => if_pos hp) hg
theorem Evn.neg {p : Prop} [Decidable p] {g h : Nat → Option α} {v : α} (hp : ¬ p) (hg : Evn h v) : Evn (fun k => if p then g k else h k) v := Evn.congr (fun k => if_neg hp) hg
theorem Evn.ex {g : Nat → Option α} {v : α} (h : Evn g v) : ∃ k, g k = some v := by
 obtain ⟨K, h⟩ := h
 exact ⟨K, h K (Nat.le_refl _)⟩
theorem Evn.of {g : Nat → Option α} {v : α} (K : Nat) (h : ∀ k, K ≤ k → g k = some v) : Evn g v := ⟨K, h⟩
theorem Evn.val {g : Nat → Option α} {v v' : α} (h : Evn g v) (e : v = v') : Evn g v' := e ▸ h
end
end Go.Proofs.YtofoegknealilaaDoorEv
end

section
namespace Go.Proofs.YtofoegknealilaaDoor.Pure
open Go.RowKit Go.Proofs.YtofoegknealilaaDoor.PAll Go.Proofs.YtofoegknealilaaDoorW.PrintWords Go.Proofs.YtofoegknealilaaDoorW.PrintLast Go.Proofs.YtofoegknealilaaDoorEv Go.Proofs.YtofoegknealilaaDoorTab Go.Proofs.YtofoegknealilaaDoorWords
abbrev Cl := S44
abbrev Mb := S50
abbrev Vr := S74
abbrev Sg := S57
theorem w1 {i n : Nat} (h : i < n) (hn : n < 4398046511104) : wrap64 ((i : Int) + 1) = ((i + 1 : Nat) : Int) := by unfold wrap64; omega
theorem rdV (l : List (S74)) (i : Nat) (h : i < l.length) : za2 l (i : Int) = l[i] := by
 unfold za2
 rw [Int.toNat_natCast, List.getD_eq_getElem?_getD, List.getElem?_eq_getElem h]; rfl
theorem rdS (l : List (S57)) (i : Nat) (h : i < l.length) : zaV l (i : Int) = l[i] := by
 unfold zaV
 rw [Int.toNat_natCast, List.getD_eq_getElem?_getD, List.getElem?_eq_getElem h]; rfl
structure TB (t : List Cl) : Prop where
 len : t.length ≤ 9
 fs : ∀ c ∈ t, c.f2.length ≤ 7
 ms : ∀ c ∈ t, c.f3.length ≤ 7
 ps : ∀ c ∈ t, ∀ m ∈ c.f3, m.f1.length ≤ 10
theorem zcC (t : List Cl) : ∀ (k : Nat) (pre : List Nat) (nm : ByteArray), (lineP t k pre nm).length ≤ k
 | 0, _, _ => by simp [lineP]
 | k + 1, pre, nm => by
  unfold lineP
  split
  ·
   simp
  ·
   split
   ·
    simp
   ·
    have := zcC t k
    simp only [List.length_cons]
    have h1 := this (pre ++ [(idxC nm t 0).toNat]) (clsAt t (idxC nm t 0).toNat).f1
    omega
theorem zc3 (t : List Cl) (p : Nat) (h : p < t.length) : clsAt t p ∈ t := by
 unfold clsAt zai
 rw [Int.toNat_natCast, List.getD_eq_getElem?_getD, List.getElem?_eq_getElem h]
 exact List.getElem_mem h
theorem zeo {α : Type} (f : Nat → List α) (b : Nat) : ∀ (l : List Nat), (∀ p ∈ l, (f p).length ≤ b) → (l.flatMap f).length ≤ l.length * b
 | [], _ => by simp
 | x :: r, h => by
  have h1 := zeo f b r (fun p hp => h p (List.mem_cons_of_mem _ hp))
  have h2 := h x List.mem_cons_self
  simp only [List.flatMap_cons, List.length_append, List.length_cons]
  rw [Nat.succ_mul]; omega
section
variable {t : List Cl} (ht : TB t)
include ht
theorem TB.line (c : ByteArray) : (lineL t c).length ≤ 10 := by
 have := zcC t (t.length + 1) [] c
 have h := ht.len
 unfold lineL; omega
theorem TB.fields (c : ByteArray) : (zbw t c).length ≤ 70 := by
 have h1 := ht.line c
 have h2 := zeo (fun p => (clsAt t p).f2) 7 (lineL t c).reverse (fun p hp => ht.fs _ (zc3 t p (zbH t _ _ _ _ (List.mem_reverse.1 hp))))
 rw [List.length_reverse] at h2
 exact Nat.le_trans h2 o9
theorem TB.all (c : ByteArray) : zaX.all t c ≤ 70 := by
 have h1 := ht.line c
 have h2 := zeo (fun p => (clsAt t p).f3) 7 (lineL t c).reverse (fun p hp => ht.ms _ (zc3 t p (zbH t _ _ _ _ (List.mem_reverse.1 hp))))
 rw [List.length_reverse] at h2
 exact Nat.le_trans h2 o9
theorem TB.small : zaX.small t = true := by
 unfold zaX.small
 have h := ht.len
 simp only [Bool.and_eq_true, decide_eq_true_eq, List.all_eq_true]
 exact ⟨by omega, fun x hx => ⟨by have := ht.ms x hx; omega, fun m hm => by have := ht.ps x hx m hm; omega⟩⟩
end
theorem zeh (out : List (S57)) (m : S57) : (putS out m).length ≤ out.length + 1 := by
 unfold putS
 split <;> simp
theorem zfm : ∀ (l out : List (S57)), (l.foldl putS out).length ≤ out.length + l.length
 | [], out => by simp
 | m :: r, out => by
  have h1 := zfm r (putS out m)
  have h2 := zeh out m
  simp only [List.foldl_cons, List.length_cons]; omega
theorem TB.meths {t : List Cl} (ht : TB t) (c : ByteArray) : (zcU t c).length ≤ 70 := by
 have h1 := zfm ((lineL t c).reverse.flatMap fun p => (clsAt t p).f3) []
 have h2 := ht.all c
 unfold zaX.all at h2
 unfold zcU zgc
 simp only [List.length_nil] at h1; omega
def mem (t : List Cl) (c : ByteArray) : List Mb := (zbw t c).map (fun v => ⟨v.f0, -1⟩) ++ (zcU t c).map (fun m => ⟨m.f0, (m.f1.length : Int)⟩)
theorem zgX (o : List Mb) (l : List (S57)) (hl : l.length ≤ 70) : ∀ (d i : Nat) (x : List Mb), d = l.length - i → i ≤ l.length → x.length ≤ 70 + i → Evn (fun k => zay.l1 k x l (l.length : Int) (i : Int)) (x ++ (l.drop i).map (fun m => ⟨m.f0, (m.f1.length : Int)⟩)) := by
 intro d
 induction d with
 | zero =>
  intro i x hd hi hx
  refine Evn.succ (Evn.neg o9 ((Evn.ret _).val ?_))
  rw [List.drop_eq_nil_of_le o9]; simp
 | succ d ih =>
  intro i x hd hi hx
  have h : i < l.length := by omega
  rw [List.drop_eq_getElem_cons h]
  refine Evn.succ (Evn.pos o9 (Evn.pos o9 (Evn.pos o9 (Evn.pos o9 ?_))))
  rw [rdS l i h, w1 h o9]
  refine (ih (i + 1) (x ++ [⟨l[i].f0, (l[i].f1.length : Int)⟩]) o9 o9 (by simp; omega)).val ?_
  simp only [List.append_assoc, List.map_cons, List.cons_append, List.nil_append]
theorem zgN (t : List Cl) (ht : TB t) (c : ByteArray) (l : List (S74)) (hl : l.length ≤ 70) : ∀ (d i : Nat) (x : List Mb), d = l.length - i → i ≤ l.length → x.length ≤ i → Evn (fun k => zay.l0 k t c x l (l.length : Int) (i : Int)) (x ++ (l.drop i).map (fun v => ⟨v.f0, -1⟩) ++ (zcU t c).map (fun m => ⟨m.f0, (m.f1.length : Int)⟩)) := by
 intro d
 induction d with
 | zero =>
  intro i x hd hi hx
  refine Evn.succ (Evn.neg o9 (Evn.cbind (a := zaX.f t c) (v := zcU t c) ?_ ?_))
  ·
   unfold zaX.f
   rw [if_pos ⟨ht.small, by have := ht.all c; omega⟩]
  ·
   refine (zgX [] (zcU t c) (ht.meths c) _ 0 x rfl o9 o9).val ?_
   rw [List.drop_eq_nil_of_le (show l.length ≤ i by omega)]; simp
 | succ d ih =>
  intro i x hd hi hx
  have h : i < l.length := by omega
  rw [List.drop_eq_getElem_cons h]
  refine Evn.succ (Evn.pos o9 (Evn.pos o9 (Evn.pos o9 (Evn.pos o9 ?_))))
  rw [rdV l i h, w1 h o9]
  refine (ih (i + 1) (x ++ [⟨l[i].f0, -1⟩]) o9 o9 (by simp; omega)).val ?_
  simp only [List.append_assoc, List.map_cons, List.cons_append, List.nil_append]
theorem zfQ {t : List Cl} (ht : TB t) (c : ByteArray) : Evn (fun k => zay.f k t c) (mem t c) := by
 refine Evn.cbind (a := zby.f t c) (v := zbw t c) ?_ ?_
 ·
  unfold zby.f
  rw [if_pos ⟨by have := ht.len; omega, by have := ht.fields c; omega⟩]
 ·
  refine (zgN t ht c (zbw t c) (ht.fields c) _ 0 [] rfl o9 s9).val ?_
  simp [mem]
theorem zhQ {t : List Cl} (ht : TB t) (c : ByteArray) : (mem t c).length ≤ 140 := by
 have h1 := ht.fields c
 have h2 := ht.meths c
 simp only [mem, List.length_append, List.length_map]; omega
theorem rdC (l : List Cl) (i : Nat) (h : i < l.length) : zai l (i : Int) = l[i] := by
 unfold zai
 rw [Int.toNat_natCast, List.getD_eq_getElem?_getD, List.getElem?_eq_getElem h]; rfl
theorem zfT (l : List Vr) (hl : l.length ≤ 1000) : ∀ (d i : Nat), d = l.length - i → i ≤ l.length → (∀ j, j < i → ∀ h : j < l.length, l[j].f0.size ≤ 30 ∧ l[j].f1.size ≤ 30) →
  ∃ b, Evn (fun k => zao.l0 k l (i : Int)) b ∧ (b = false → ∀ v ∈ l, v.f0.size ≤ 30 ∧ v.f1.size ≤ 30) := by
 intro d
 induction d with
 | zero =>
  intro i hd hi hb
  refine ⟨false, Evn.succ (Evn.neg o9 (Evn.ret _)), fun _ x hx => ?_⟩
  obtain ⟨j, hj, rfl⟩ := List.getElem_of_mem hx
  exact hb j o9 hj
 | succ d ih =>
  intro i hd hi hb
  have h : i < l.length := by omega
  by_cases h0 : ((l[i].f0.size : Nat) : Int) > 30
  ·
   exact ⟨true, Evn.succ (Evn.pos o9 (Evn.pos o9 (Evn.pos (by rw [rdV l i h]; exact h0) (Evn.ret _)))), fun h => by cases h⟩
  by_cases h1 : ((l[i].f1.size : Nat) : Int) > 30
  ·
   exact ⟨true, Evn.succ (Evn.pos o9 (Evn.pos o9 (Evn.neg (by rw [rdV l i h]; exact h0) (Evn.pos (by rw [rdV l i h]; exact h1) (Evn.ret _))))), fun h => by cases h⟩
  obtain ⟨b, h3, h4⟩ := ih (i + 1) o9 o9 fun j hj hjl => by
   rcases Nat.lt_or_ge j i with h3 | h3
   ·
    exact hb j h3 hjl
   ·
    obtain rfl : j = i := by omega
    omega
  refine ⟨b, Evn.succ (Evn.pos o9 (Evn.pos o9 (Evn.neg (by rw [rdV l i h]; exact h0) (Evn.neg (by rw [rdV l i h]; exact h1) ?_)))), h4⟩
  rw [w1 h o9]; exact h3
theorem zdv (l : List Vr) (hl : l.length ≤ 1000) : ∃ b, Evn (fun k => zao.f k l) b ∧ (b = false → ∀ v ∈ l, v.f0.size ≤ 30 ∧ v.f1.size ≤ 30) := zfT l hl l.length 0 o9 o9 fun j hj => by omega
def okM (m : Sg) : Prop := m.f0.size ≤ 30 ∧ m.f2.size ≤ 30 ∧ m.f1.length ≤ 10 ∧ ∀ v ∈ m.f1, v.f0.size ≤ 30 ∧ v.f1.size ≤ 30
def okC (c : Cl) : Prop := c.f0.size ≤ 30 ∧ c.f1.size ≤ 30 ∧ c.f2.length ≤ 7 ∧ c.f3.length ≤ 7 ∧ (∀ v ∈ c.f2, v.f0.size ≤ 30 ∧ v.f1.size ≤ 30) ∧ ∀ m ∈ c.f3, okM m
theorem zik (t : List Cl) (i : Nat) (b' : Bool) (hn : Evn (fun k => zaf.l0 k t (wrap64 ((i : Int) + 1))) b') (n s : ByteArray) (fs : List Vr) (ms : List Sg) (hm : ms.length ≤ 7) : ∀ (d j : Nat), d = ms.length - j → j ≤ ms.length → (∀ q, q < j → ∀ h : q < ms.length, okM ms[q]) →
  ∃ b, Evn (fun k => zaf.l1 k t (i : Int) (j : Int) n s fs ms) b ∧ (b = false → b' = false ∧ ∀ m ∈ ms, okM m) := by
 intro d
 induction d with
 | zero =>
  intro j hd hj hb
  refine ⟨b', Evn.succ (Evn.neg o9 hn), fun e => ⟨e, fun x hx => ?_⟩⟩
  obtain ⟨q, hq, rfl⟩ := List.getElem_of_mem hx
  exact hb q o9 hq
 | succ d ih =>
  intro j hd hj hb
  have h : j < ms.length := by omega
  by_cases h0 : ((ms[j].f0.size : Nat) : Int) > 30
  ·
   exact ⟨true, Evn.succ (Evn.pos o9 (Evn.pos o9 (Evn.pos (by rw [rdS ms j h]; exact h0) (Evn.ret _)))), fun h => by cases h⟩
  by_cases h1 : ((ms[j].f2.size : Nat) : Int) > 30
  ·
   exact ⟨true, Evn.succ (Evn.pos o9 (Evn.pos o9 (Evn.neg (by rw [rdS ms j h]; exact h0) (Evn.pos (by rw [rdS ms j h]; exact h1) (Evn.ret _))))), fun h => by cases h⟩
  by_cases h2 : ((ms[j].f1.length : Nat) : Int) > 10
  ·
   exact ⟨true, Evn.succ (Evn.pos o9 (Evn.pos o9 (Evn.neg (by rw [rdS ms j h]; exact h0) (Evn.neg (by rw [rdS ms j h]; exact h1) (Evn.pos (by rw [rdS ms j h]; exact h2) (Evn.ret _)))))), fun h => by cases h⟩
  obtain ⟨v, h3, h4⟩ := zdv ms[j].f1 o9
  rw [← rdS ms j h] at h3
  cases v with
  | true => exact ⟨true, Evn.succ (Evn.pos o9 (Evn.pos o9 (Evn.neg (by rw [rdS ms j h]; exact h0) (Evn.neg (by rw [rdS ms j h]; exact h1) (Evn.neg (by rw [rdS ms j h]; exact h2) (Evn.bind h3 (Evn.pos rfl (Evn.ret _)))))))), fun h => by cases h⟩
  | false =>
   obtain ⟨b, h5, h6⟩ := ih (j + 1) o9 o9 fun q hq hql => by
    rcases Nat.lt_or_ge q j with h3 | h3
    ·
     exact hb q h3 hql
    ·
     obtain rfl : q = j := by omega
     exact ⟨by omega, by omega, by omega, h4 rfl⟩
   refine ⟨b, Evn.succ (Evn.pos o9 (Evn.pos o9 (Evn.neg (by rw [rdS ms j h]; exact h0) (Evn.neg (by rw [rdS ms j h]; exact h1) (Evn.neg (by rw [rdS ms j h]; exact h2) (Evn.bind h3 (Evn.neg s9 ?_))))))), h6⟩
   rw [w1 h o9]; exact h5
theorem zhy (t : List Cl) : ∀ (d i : Nat), d = 10 - i → i ≤ 10 → i ≤ t.length →
  ∃ b, Evn (fun k => zaf.l0 k t (i : Int)) b ∧ (b = false → t.length ≤ 9 ∧ ∀ j, i ≤ j → ∀ h : j < t.length, okC t[j]) := by
 intro d
 induction d with
 | zero =>
  intro i hd hi hil
  obtain rfl : i = 10 := by omega
  by_cases h : (10 : Int) < (t.length : Int)
  ·
   refine ⟨true, Evn.succ (Evn.pos h (Evn.succ (Evn.congr (g' := fun _ => some (decide ((t.length : Int) > 9))) (fun k => rfl) ((Evn.ret _).val ?_)))), fun h => by cases h⟩
   simp; omega
  ·
   refine ⟨true, Evn.succ (Evn.neg h (Evn.succ (Evn.congr (g' := fun _ => some (decide ((t.length : Int) > 9))) (fun k => rfl) ((Evn.ret _).val ?_)))), fun h => by cases h⟩
   simp; omega
 | succ d ih =>
  intro i hd hi hil
  by_cases h : i < t.length
  ·
   have hs : ∀ {b : Bool}, Evn (fun k => if (0 : Int) ≤ (i : Int) then (if (i : Int) < (t.length : Int) then (if (((zai t (i : Int)).f0).size : Int) > 30 then (zaf.j2 k t (i : Int) true ((zai t (i : Int)).f0) ((zai t (i : Int)).f1) ((zai t (i : Int)).f2) ((zai t (i : Int)).f3)) else (if (((zai t (i : Int)).f1).size : Int) > 30 then (zaf.j2 k t (i : Int) true ((zai t (i : Int)).f0) ((zai t (i : Int)).f1) ((zai t (i : Int)).f2) ((zai t (i : Int)).f3)) else (if (((zai t (i : Int)).f2).length : Int) > 7 then (zaf.j2 k t (i : Int) true ((zai t (i : Int)).f0) ((zai t (i : Int)).f1) ((zai t (i : Int)).f2) ((zai t (i : Int)).f3)) else (if (((zai t (i : Int)).f3).length : Int) > 7 then (zaf.j2 k t (i : Int) true ((zai t (i : Int)).f0) ((zai t (i : Int)).f1) ((zai t (i : Int)).f2) ((zai t (i : Int)).f3)) else ((zao.f k ((zai t (i : Int)).f2)).bind fun t265 => (zaf.j2 k t (i : Int) t265 ((zai t (i : Int)).f0) ((zai t (i : Int)).f1) ((zai t (i : Int)).f2) ((zai t (i : Int)).f3))))))) else (none)) else (none)) b →
     Evn (fun k => zaf.l0 k t (i : Int)) b := fun hh => Evn.succ (Evn.pos o9 (Evn.succ (Evn.pos (by simp; omega) hh)))
   have hj : ∀ (n s : ByteArray) (fs : List Vr) (ms : List Sg), Evn (fun k => zaf.j2 k t (i : Int) true n s fs ms) true := fun n s fs ms => Evn.succ (Evn.congr (g' := fun _ => some true) (fun k => rfl) (Evn.ret _))
   rw [rdC t i h] at hs
   by_cases h0 : ((t[i].f0.size : Nat) : Int) > 30
   ·
    exact ⟨true, hs (Evn.pos o9 (Evn.pos o9 (Evn.pos h0 (hj _ _ _ _)))), fun h => by cases h⟩
   by_cases h1 : ((t[i].f1.size : Nat) : Int) > 30
   ·
    exact ⟨true, hs (Evn.pos o9 (Evn.pos o9 (Evn.neg h0 (Evn.pos h1 (hj _ _ _ _))))), fun h => by cases h⟩
   by_cases h2 : ((t[i].f2.length : Nat) : Int) > 7
   ·
    exact ⟨true, hs (Evn.pos o9 (Evn.pos o9 (Evn.neg h0 (Evn.neg h1 (Evn.pos h2 (hj _ _ _ _)))))), fun h => by cases h⟩
   by_cases h3 : ((t[i].f3.length : Nat) : Int) > 7
   ·
    exact ⟨true, hs (Evn.pos o9 (Evn.pos o9 (Evn.neg h0 (Evn.neg h1 (Evn.neg h2 (Evn.pos h3 (hj _ _ _ _))))))), fun h => by cases h⟩
   obtain ⟨v, h4, h5⟩ := zdv t[i].f2 o9
   cases v with
   | true => exact ⟨true, hs (Evn.pos o9 (Evn.pos o9 (Evn.neg h0 (Evn.neg h1 (Evn.neg h2 (Evn.neg h3 (Evn.bind h4 (hj _ _ _ _)))))))), fun h => by cases h⟩
   | false =>
    obtain ⟨b', h6, h7⟩ := ih (i + 1) o9 o9 o9
    rw [← w1 (show i < 10 by omega) o9] at h6
    obtain ⟨b, h8, h9⟩ := zik t i b' h6 t[i].f0 t[i].f1 t[i].f2 t[i].f3 o9 t[i].f3.length 0 o9 o9 (fun q hq => by omega)
    refine ⟨b, hs (Evn.pos o9 (Evn.pos o9 (Evn.neg h0 (Evn.neg h1 (Evn.neg h2 (Evn.neg h3 (Evn.bind h4 (Evn.succ (Evn.congr (fun k => rfl) h8))))))))), fun e => ?_⟩
    obtain ⟨e1, e2⟩ := h9 e
    obtain ⟨e3, e4⟩ := h7 e1
    refine ⟨e3, fun j hj hjl => ?_⟩
    rcases Nat.eq_or_lt_of_le hj with rfl | hj
    ·
     exact ⟨by omega, by omega, by omega, by omega, h5 rfl, e2⟩
    ·
     exact e4 j hj hjl
  ·
   refine ⟨decide ((t.length : Int) > 9), Evn.succ (Evn.neg o9 (Evn.succ (Evn.congr (fun k => rfl) (Evn.ret _)))), fun e => ⟨by have := of_decide_eq_false e; omega, fun j hj hjl => by omega⟩⟩
structure TS (t : List Cl) : Prop extends TB t where
 ok : ∀ c ∈ t, okC c
theorem zgP (t : List Cl) : ∃ b, Evn (fun k => zaf.f k t) b ∧ (b = false → TS t) := by
 obtain ⟨b, h1, h2⟩ := zhy t 10 0 rfl o9 o9
 refine ⟨b, h1, fun e => ?_⟩
 obtain ⟨h3, h4⟩ := h2 e
 have h5 : ∀ c ∈ t, okC c := fun c hc => by
  obtain ⟨j, hj, rfl⟩ := List.getElem_of_mem hc
  exact h4 j o9 hj
 exact { len := h3, fs := fun c hc => (h5 c hc).2.2.1, ms := fun c hc => (h5 c hc).2.2.2.1, ps := fun c hc m hm => ((h5 c hc).2.2.2.2.2 m hm).2.2.1, ok := h5 }
theorem bl {a b : ByteArray} (h : a.toList = b.toList) : a = b := toList_inj h
structure Good (t : List Cl) : Prop where
 siz : ∀ i, i < t.length → zds t i = 0
 lin : ∀ i, i < t.length → zdW t i = 0
 own : ∀ i, i < t.length → ownF t (mem t (clsAt t i).f1) i = 0
theorem zd2 (f : Nat → Int) : ∀ l : List Nat, scanL f l = none → ∀ i ∈ l, f i = 0
 | [], _, i, hi => by cases hi
 | x :: r, h, i, hi => by
  unfold scanL at h
  by_cases hx : f x = 0
  ·
   rw [if_pos hx] at h
   rcases List.mem_cons.1 hi with rfl | hi
   ·
    exact hx
   ·
    exact zd2 f r h i hi
  ·
   rw [if_neg hx] at h; cases h
theorem zdd (f : Nat → Int) : ∀ (l : List Nat) (i : Nat), scanL f l = some i → ¬ f i = 0
 | [], i, h => by cases h
 | x :: r, i, h => by
  unfold scanL at h
  by_cases hx : f x = 0
  ·
   rw [if_pos hx] at h; exact zdd f r i h
  ·
   rw [if_neg hx] at h; cases h; exact hx
theorem zfi (t : List Cl) (mb : ByteArray → List Mb) : ∀ ks : List Nat, (zbY t mb ks).1 = 0 → ∀ k ∈ ks, ∀ i, i < t.length → lookF t mb k i = 0
 | [], _, k, hk => by cases hk
 | k0 :: r, h, k, hk => by
  unfold zbY at h
  cases hs : scanL (lookF t mb k0) (List.range t.length) with
  | some j => rw [hs] at h; exact absurd h (zdd _ _ _ hs)
  | none =>
   rw [hs] at h
   rcases List.mem_cons.1 hk with rfl | hk
   ·
    exact fun i hi => zd2 _ _ hs i (List.mem_range.2 hi)
   ·
    exact zfi t mb r h k hk
theorem zhM {t : List Cl} (h : (zbB t (mem t)).1 = 0) : Good t := by
 unfold zbB at h
 by_cases h40 : 40 < t.length
 ·
  rw [if_pos h40] at h; exact absurd h d9
 ·
  rw [if_neg h40] at h
  have h1 := zfi t (mem t) [0, 1, 2] h
  exact ⟨fun i hi => h1 0 s9 i hi, fun i hi => h1 1 s9 i hi, fun i hi => h1 2 s9 i hi⟩
theorem ix_le (s : ByteArray) : ∀ (l : List Cl) (i j : Nat), j < l.length → (clsAt l j).f0 = s → 0 ≤ idxC s l i ∧ idxC s l i ≤ ((i + j : Nat) : Int)
 | [], i, j, h, _ => by simp at h
 | x :: r, i, 0, _, h => by
  have hx : x.f0 = s := h
  unfold idxC
  rw [if_pos (by rw [hx])]
  omega
 | x :: r, i, j + 1, hj, h => by
  rw [zd1] at h
  unfold idxC
  by_cases hx : x.f0.toList = s.toList
  ·
   rw [if_pos hx]; omega
  ·
   rw [if_neg hx]
   have := ix_le s r (i + 1) j (by simpa using hj) h
   omega
section
variable {t : List Cl} (g : Good t)
include g
theorem Good.grt (i : Nat) (hi : i < t.length) : word great (clsAt t i).f0 = true := by
 have h := g.siz i hi
 unfold zds at h
 cases hw : word great (clsAt t i).f0 with
 | true => rfl
 | false => rw [if_pos hw] at h; exact absurd h d9
theorem Good.first (i : Nat) (hi : i < t.length) : idxC (clsAt t i).f0 t 0 = (i : Int) := by
 have h := g.siz i hi
 unfold zds at h
 rw [if_neg (by rw [g.grt i hi]; decide)] at h
 have h1 := ix_le (clsAt t i).f0 t 0 i hi rfl
 by_cases h2 : at1 t (clsAt t i).f0 < (i : Int)
 ·
  rw [if_pos h2] at h; exact absurd h d9
 ·
  unfold at1 at h2
  rw [if_neg o9] at h2
  omega
end
def up (t : List Cl) (i : Nat) : Option Nat := if idxC (clsAt t i).f1 t 0 < 0 then none else some (idxC (clsAt t i).f1 t 0).toNat
theorem zcp {t : List Cl} {i j : Nat} (h : up t i = some j) : j < t.length ∧ (clsAt t i).f1 = (clsAt t j).f0 ∧ idxC (clsAt t i).f1 t 0 = (j : Int) := by
 unfold up at h
 by_cases h1 : idxC (clsAt t i).f1 t 0 < 0
 ·
  rw [if_pos h1] at h; cases h
 ·
  rw [if_neg h1] at h
  cases h
  obtain ⟨h2, h3, _⟩ := zb4 _ t h1
  exact ⟨h2, (bl h3).symm, by omega⟩
theorem zex {t : List Cl} {i : Nat} (h : up t i = none) : idxC (clsAt t i).f1 t 0 < 0 := by
 unfold up at h
 by_cases h1 : idxC (clsAt t i).f1 t 0 < 0
 ·
  exact h1
 ·
  rw [if_neg h1] at h; cases h
def it (t : List Cl) : Nat → Nat → Option Nat
 | 0, i => some i
 | k + 1, i => (up t i).bind (it t k)
theorem zcr (t : List Cl) : ∀ (a b i : Nat), it t (a + b) i = (it t a i).bind (it t b)
 | 0, b, i => by rw [Nat.zero_add]; rfl
 | a + 1, b, i => by
  rw [Nat.add_right_comm]
  show (up t i).bind (it t (a + b)) = ((up t i).bind (it t a)).bind (it t b)
  cases up t i with
  | none => rfl
  | some j => exact zcr t a b j
theorem it_lt (t : List Cl) : ∀ (a i j : Nat), i < t.length → it t a i = some j → j < t.length
 | 0, i, j, hi, h => by cases h; exact hi
 | a + 1, i, j, hi, h => by
  obtain ⟨m, h1, h2⟩ := Option.bind_eq_some_iff.1 h
  exact it_lt t a m j (zcp h1).1 h2
theorem zd4 {t : List Cl} {p i : Nat} (hp : 1 ≤ p) (h : it t p i = some i) : ∀ m, (it t m i).isSome = true := by
 intro m
 induction m using Nat.strongRecOn with
 | _ m ih =>
  rcases Nat.lt_or_ge m p with hm | hm
  ·
   have h1 := zcr t m (p - m) i
   rw [show m + (p - m) = p by omega, h] at h1
   cases hx : it t m i with
   | none => rw [hx] at h1; cases h1
   | some _ => rfl
  ·
   have h1 := zcr t p (m - p) i
   rw [show p + (m - p) = m by omega, h] at h1
   rw [h1]
   exact ih (m - p) o9
def path (t : List Cl) : Nat → Nat → List Nat
 | 0, i => [i]
 | k + 1, i => i :: (match up t i with | none => [] | some j => path t k j)
theorem zcE (t : List Cl) (k : Nat) (pre : List Nat) (nm : ByteArray) (h : idxC nm t 0 < 0) : lineP t k pre nm = [] := by
 cases k with
 | zero => rfl
 | succ k => unfold lineP; rw [if_pos h]
theorem zeM (t : List Cl) : ∀ (k i : Nat) (pre : List Nat) (fuel : Nat) (nm : ByteArray), idxC nm t 0 = (i : Int) → it t (k + 1) i = none → (∀ q ∈ pre, ∀ j, it t j i ≠ some q) → k < fuel → lineP t fuel pre nm = path t k i := by
 intro k
 induction k with
 | zero =>
  intro i pre fuel nm hn hd hp hf
  obtain ⟨f, rfl⟩ : ∃ f, fuel = f + 1 := ⟨fuel - 1, by omega⟩
  unfold lineP
  rw [if_neg o9, hn, Int.toNat_natCast, if_neg (fun h => hp i h 0 rfl)]
  have hu : up t i = none := by
   cases hu : up t i with
   | none => rfl
   | some j => simp [it, hu] at hd
  rw [zcE t _ _ _ (zex hu)]
  rfl
 | succ k ih =>
  intro i pre fuel nm hn hd hp hf
  obtain ⟨f, rfl⟩ : ∃ f, fuel = f + 1 := ⟨fuel - 1, by omega⟩
  unfold lineP
  rw [if_neg o9, hn, Int.toNat_natCast, if_neg (fun h => hp i h 0 rfl)]
  unfold path
  cases hu : up t i with
  | none => rw [zcE t _ _ _ (zex hu)]
  | some j =>
   have hd' : it t (k + 1) j = none := by
    have : it t (k + 1 + 1) i = (up t i).bind (it t (k + 1)) := rfl
    rw [this, hu] at hd
    exact hd
   have hs : ∀ a, it t (a + 1) i = it t a j := fun a => by
    show (up t i).bind (it t a) = _
    rw [hu]; rfl
   rw [ih j (pre ++ [i]) f _ (zcp hu).2.2 hd' (fun q hq a ha => ?_) o9]
   rcases List.mem_append.1 hq with hq | hq
   ·
    exact hp q hq (a + 1) ((hs a).trans ha)
   ·
    rw [List.mem_singleton] at hq
    subst hq
    have := zd4 (p := a + 1) o9 ((hs a).trans ha) (k + 1 + 1)
    rw [hd] at this
    cases this
theorem zeG (t : List Cl) : ∀ (k i : Nat), it t (k + 1) i = none → path t (k + 1) i = path t k i
 | 0, i, h => by
  have hu : up t i = none := by
   cases hu : up t i with
   | none => rfl
   | some j => simp [it, hu] at h
  simp [path, hu]
 | k + 1, i, h => by
  show i :: _ = i :: _
  cases hu : up t i with
  | none => rfl
  | some j =>
   have h' : it t (k + 1) j = none := by
    have : it t (k + 1 + 1) i = (up t i).bind (it t (k + 1)) := rfl
    rw [this, hu] at h
    exact h
   show i :: path t (k + 1) j = i :: path t k j
   rw [zeG t k j h']
theorem zht {t : List Cl} {s : Nat} : ∀ p, 1 ≤ p → it t p s = some s → ∃ p, 1 ≤ p ∧ it t p s = some s ∧ ∀ q, 1 ≤ q → q < p → it t q s ≠ some s := by
 intro p
 induction p using Nat.strongRecOn with
 | _ p ih =>
  intro hp h
  by_cases hm : ∀ q, 1 ≤ q → q < p → it t q s ≠ some s
  ·
   exact ⟨p, hp, h, hm⟩
  ·
   obtain ⟨q, hq⟩ := Classical.not_forall.1 hm
   obtain ⟨h1, hq⟩ := Classical.not_imp.1 hq
   obtain ⟨h2, hq⟩ := Classical.not_imp.1 hq
   exact ih q h2 h1 (Classical.not_not.1 hq)
theorem zha {t : List Cl} {s p : Nat} (hp : 1 ≤ p) (h : it t p s = some s) (hm : ∀ q, 1 ≤ q → q < p → it t q s ≠ some s) (z : Nat) (hz : it t (p - 1) s = some z) :
  ∀ (d q x : Nat) (pre : List Nat) (fuel : Nat) (nm : ByteArray), d = p - 1 - q → q < p → it t q s = some x → idxC nm t 0 = (x : Int) → (∀ y ∈ pre, ∃ r, r < q ∧ it t r s = some y) → (0 < q → s ∈ pre) → d < fuel → (lineP t fuel pre nm).getLast? = some z := by
 have hdist : ∀ a b x, a < b → b < p → it t a s = some x → it t b s = some x → False := fun a b x hab hb h1 h2 => by
  have h3 := zcr t b (p - b) s
  rw [show b + (p - b) = p by omega, h, h2] at h3
  have h4 := zcr t a (p - b) s
  rw [h1] at h4
  exact hm (a + (p - b)) o9 o9 (h4.trans h3.symm)
 intro d
 induction d with
 | zero =>
  intro q x pre fuel nm hd hq hx hn hpre hs hf
  obtain rfl : q = p - 1 := by omega
  obtain rfl : x = z := Option.some.inj (hx.symm.trans hz)
  obtain ⟨f, rfl⟩ : ∃ f, fuel = f + 1 := ⟨fuel - 1, by omega⟩
  unfold lineP
  rw [if_neg o9, hn, Int.toNat_natCast, if_neg (fun hh => by
   obtain ⟨r, h1, h2⟩ := hpre x hh
   exact hdist r (p - 1) x h1 hq h2 hx)]
  have hux : up t x = some s := by
   have h3 := zcr t (p - 1) 1 s
   rw [show p - 1 + 1 = p by omega, h, hx] at h3
   have h4 : some s = (up t x).bind (it t 0) := h3
   cases hu : up t x with
   | none => rw [hu] at h4; cases h4
   | some j => rw [hu] at h4; exact h4.symm
  have hi := (zcp hux).2.2
  have : lineP t f (pre ++ [x]) (clsAt t x).f1 = [] := by
   cases f with
   | zero => rfl
   | succ f =>
    unfold lineP
    rw [if_neg o9, hi, Int.toNat_natCast, if_pos]
    rcases Nat.eq_zero_or_pos (p - 1) with h0 | h0
    ·
     rw [h0] at hx
     cases hx
     simp
    ·
     exact List.mem_append_left _ (hs h0)
  rw [this]; rfl
 | succ d ih =>
  intro q x pre fuel nm hd hq hx hn hpre hs hf
  obtain ⟨f, rfl⟩ : ∃ f, fuel = f + 1 := ⟨fuel - 1, by omega⟩
  unfold lineP
  rw [if_neg o9, hn, Int.toNat_natCast, if_neg (fun hh => by
   obtain ⟨r, h1, h2⟩ := hpre x hh
   exact hdist r q x h1 hq h2 hx)]
  have hq1 := zd4 hp h (q + 1)
  obtain ⟨y, hy⟩ := Option.isSome_iff_exists.1 hq1
  have hux : up t x = some y := by
   have h3 := zcr t q 1 s
   rw [hy, hx] at h3
   have h4 : some y = (up t x).bind (it t 0) := h3
   cases hu : up t x with
   | none => rw [hu] at h4; cases h4
   | some j => rw [hu] at h4; exact h4.symm
  have h1 := ih (q + 1) y (pre ++ [x]) f _ o9 o9 hy (zcp hux).2.2 (fun w hw => by
   rcases List.mem_append.1 hw with hw | hw
   ·
    obtain ⟨r, h1, h2⟩ := hpre w hw
    exact ⟨r, by omega, h2⟩
   ·
    rw [List.mem_singleton.1 hw]; exact ⟨q, by omega, hx⟩) (fun _ => by
   rcases Nat.eq_zero_or_pos q with h0 | h0
   ·
    subst h0
    cases hx
    simp
   ·
    exact List.mem_append_left _ (hs h0)) o9
  rw [List.getLast?_cons, h1]; rfl
theorem zg8 {t : List Cl} {nm : ByteArray} {z : Nat} (h : (lineL t nm).getLast? = some z) : lastN t nm = (clsAt t z).f0 := by
 have h0 : (supL t nm).length = (lineL t nm).length := by simp [supL]
 have hne : lineL t nm ≠ [] := fun e => by rw [e] at h; cases h
 have hp := List.length_pos_iff.2 hne
 unfold lastN rdOf
 rw [show ((((supL t nm).length : Int) - 1)).toNat = (lineL t nm).length - 1 by omega, List.getD_eq_getElem?_getD]
 unfold supL
 rw [List.getElem?_map]
 rw [List.getLast?_eq_getElem?] at h
 rw [h]; rfl
theorem Good.zib {t : List Cl} (g : Good t) {s : Nat} (hs : s < t.length) (p : Nat) (hp : 1 ≤ p) : it t p s ≠ some s := fun h => by
 obtain ⟨p, hp, h, hm⟩ := zht p hp h
 obtain ⟨z, hz⟩ := Option.isSome_iff_exists.1 (zd4 hp h (p - 1))
 have hzl := it_lt t _ _ _ hs hz
 have hux : up t z = some s := by
  have h3 := zcr t (p - 1) 1 s
  rw [show p - 1 + 1 = p by omega, h, hz] at h3
  have h4 : some s = (up t z).bind (it t 0) := h3
  cases hu : up t z with
  | none => rw [hu] at h4; cases h4
  | some j => rw [hu] at h4; exact h4.symm
 have hple : p ≤ t.length := by
  have hn : ((List.range p).map fun j => (it t j s).getD 0).Nodup := by
   refine List.pairwise_map.2 (List.Pairwise.imp_of_mem ?_ List.pairwise_lt_range)
   intro a b ha hb hab e
   obtain ⟨x, hx⟩ := Option.isSome_iff_exists.1 (zd4 hp h a)
   obtain ⟨y, hy⟩ := Option.isSome_iff_exists.1 (zd4 hp h b)
   rw [hx, hy] at e
   have exy : x = y := e
   subst exy
   have hbp := List.mem_range.1 hb
   have h3 := zcr t b (p - b) s
   rw [show b + (p - b) = p by omega, h, hy] at h3
   have h4 := zcr t a (p - b) s
   rw [hx] at h4
   exact hm (a + (p - b)) o9 o9 (h4.trans h3.symm)
  have := zcY _ (List.range t.length) hn (fun x hx => by
   obtain ⟨j, _, rfl⟩ := List.mem_map.1 hx
   obtain ⟨y, hy⟩ := Option.isSome_iff_exists.1 (zd4 hp h j)
   rw [hy]
   exact List.mem_range.2 (it_lt t _ _ _ hs hy))
  simpa using this
 have hl := zha hp h hm z hz (p - 1) 0 s [] (t.length + 1) (clsAt t s).f0 o9 o9 rfl (g.first s hs) (fun y hy => by cases hy) (fun h => absurd h o9) o9
 have h5 := zg8 (nm := (clsAt t s).f0) hl
 have h6 := g.lin s hs
 unfold zdW at h6
 rw [h5] at h6
 have h7 : at1 t (clsAt t z).f0 = (z : Int) := by unfold at1; rw [g.first z hzl, if_neg o9]
 rw [h7, Int.toNat_natCast, (zcp hux).2.1] at h6
 by_cases h8 : ¬ (clsAt t s).f1.toList = [] ∧ is1 t (clsAt t s).f1 = false
 ·
  rw [if_pos h8] at h6; exact absurd h6 d9
 ·
  rw [if_neg h8, if_pos rfl] at h6; exact absurd h6 d9
theorem Good.ends {t : List Cl} (g : Good t) {i : Nat} (hi : i < t.length) : it t t.length i = none := by
 cases hx : it t t.length i with
 | none => rfl
 | some x =>
  exfalso
  have hs : ∀ j, j ≤ t.length → ∃ y, it t j i = some y := fun j hj => by
   have h1 := zcr t j (t.length - j) i
   rw [show j + (t.length - j) = t.length by omega, hx] at h1
   cases hy : it t j i with
   | none => rw [hy] at h1; cases h1
   | some y => exact ⟨y, rfl⟩
  have hn : ((List.range (t.length + 1)).map fun j => (it t j i).getD 0).Nodup := by
   refine List.pairwise_map.2 (List.Pairwise.imp_of_mem ?_ List.pairwise_lt_range)
   intro a b ha hb hab e
   obtain ⟨x, hx⟩ := hs a (by have := List.mem_range.1 ha; omega)
   obtain ⟨y, hy⟩ := hs b (by have := List.mem_range.1 hb; omega)
   rw [hx, hy] at e
   have exy : x = y := e
   subst exy
   have h1 := zcr t a (b - a) i
   rw [show a + (b - a) = b by omega, hx, hy] at h1
   exact g.zib (it_lt t _ _ _ hi hx) (b - a) o9 h1.symm
  have := zcY _ (List.range t.length) hn (fun x hx => by
   obtain ⟨j, hj, rfl⟩ := List.mem_map.1 hx
   obtain ⟨y, hy⟩ := hs j (by have := List.mem_range.1 hj; omega)
   rw [hy]
   exact List.mem_range.2 (it_lt t _ _ _ hi hy))
  simp only [List.length_map, List.length_range] at this
  omega
theorem Good.line {t : List Cl} (g : Good t) {i : Nat} (hi : i < t.length) : lineL t (clsAt t i).f0 = i :: lineL t (clsAt t i).f1 := by
 obtain ⟨m, hm⟩ : ∃ m, t.length = m + 1 := ⟨t.length - 1, by omega⟩
 have hd := g.ends hi
 rw [hm] at hd
 have h1 : lineL t (clsAt t i).f0 = path t m i := zeM t m i [] _ _ (g.first i hi) hd (fun q hq => by cases hq) o9
 rw [h1]
 cases hu : up t i with
 | none =>
  have h2 : lineL t (clsAt t i).f1 = [] := zcE t _ _ _ (zex hu)
  rw [h2]
  cases m with
  | zero => rfl
  | succ m => simp [path, hu]
 | some j =>
  have hj := g.ends (zcp hu).1
  rw [hm] at hj
  have h2 : lineL t (clsAt t i).f1 = path t m j := zeM t m j [] _ _ (zcp hu).2.2 hj (fun q hq => by cases hq) o9
  rw [h2]
  cases m with
  | zero => simp [it, hu] at hd
  | succ m =>
   have hd' : it t (m + 1) j = none := by
    have : it t (m + 1 + 1) i = (up t i).bind (it t (m + 1)) := rfl
    rw [this, hu] at hd
    exact hd
   rw [zeG t m j hd']
   simp [path, hu]
theorem Good.zhm {t : List Cl} (g : Good t) {P : ByteArray → Prop} (h0 : ∀ nm, idxC nm t 0 < 0 → P nm) (hs : ∀ i, i < t.length → P (clsAt t i).f1 → P (clsAt t i).f0) (nm : ByteArray) : P nm := by
 have key : ∀ m i, i < t.length → it t m i = none → P (clsAt t i).f0 := by
  intro m
  induction m with
  | zero => intro i hi h; cases h
  | succ m ih =>
   intro i hi h
   refine hs i hi ?_
   cases hu : up t i with
   | none => exact h0 _ (zex hu)
   | some j =>
    rw [(zcp hu).2.1]
    have : it t (m + 1) i = (up t i).bind (it t m) := rfl
    rw [this, hu] at h
    exact ih j (zcp hu).1 h
 by_cases hn : idxC nm t 0 < 0
 ·
  exact h0 nm hn
 ·
  obtain ⟨h1, h2, _⟩ := zb4 nm t hn
  rw [← bl h2]
  exact key _ _ h1 (g.ends h1)
theorem zey {t : List Cl} {nm : ByteArray} (h : idxC nm t 0 < 0) : lineL t nm = [] := zcE t _ _ _ h
theorem zdm (nm : ByteArray) (l : List ByteArray) : hasN nm l = true ↔ nm ∈ l := by
 rw [zfx]
 simp only [List.any_eq_true, decide_eq_true_eq]
 exact ⟨fun ⟨x, h1, h2⟩ => bl h2 ▸ h1, fun h => ⟨nm, h, rfl⟩⟩
end Go.Proofs.YtofoegknealilaaDoor.Pure
end

section
namespace Go.Proofs.YtofoegknealilaaDoor.PAll
open Go.RowKit Go.Proofs.YtofoegknealilaaDoorW.PrintWords Go.Proofs.YtofoegknealilaaDoorW.PrintLast Go.Proofs.YtofoegknealilaaDoorW.za4
attribute [local go_sem] zbd zbe zbp zbq za7 za8 zbc zbf
open Go.Proofs.YtofoegknealilaaDoorTab in
def zca.f (k : Nat) (l0 : List (S44)) (a1 a2 : ByteArray) : Option (Int × Bool) := (zay.f k l0 a1).bind fun L => if L.length < 4398046511104 then some (arN L a2, arB L a2) else none
theorem zca.mono : ∀ l0 a1 a2 k, LeO (zca.f k l0 a1 a2) (zca.f (k + 1) l0 a1 a2) := by
 intro l0 a1 a2 k
 exact LeO.bind (zay.mono l0 a1 k) (fun o => LeO.refl _)
open Go.Proofs.YtofoegknealilaaDoorTab in
theorem zca.calls (k : Nat) (A0 : Option Addr) (c0 : Nat) (l0 : List (S44)) (a1 a2 : ByteArray) (r1 : Int) (r2 : Bool) (w : World) (hr0 : Kd.C k44 w A0 l0.length l0) (hc0 : l0.length ≤ c0) (h : zca.f k l0 a1 a2 = some (r1, r2)) :
  Calls Tryd.prog 20 #[.slice A0 l0.length c0, .string a1, .string a2] w fun e w' => e = .returned (.tuple #[.int .i64 r1, .bool r2]) ∧ Below w.heap.size w w' := by
 obtain ⟨L, hL, h⟩ := Option.bind_eq_some_iff.1 h
 by_cases hl : L.length < 4398046511104
 ·
  rw [if_pos hl] at h
  cases h
  exact zdw A0 c0 l0 a1 a2 L w (fun w' hb => zay.calls k A0 c0 l0 a1 L w' (Kd.zaw hr0 hb) hc0 hL) hl
 ·
  rw [if_neg hl] at h; cases h
open Go.Proofs.YtofoegknealilaaDoorTab in
def zcP.f (l0 : List (S44)) (a1 a2 : ByteArray) : Option (ByteArray × Bool) := if l0.length < 4398046511104 ∧ (zbw l0 a1).length < 4398046511104 then some (zcA l0 a1 a2, zcg l0 a1 a2) else none
open Go.Proofs.YtofoegknealilaaDoorTab in
theorem zcP.calls (A0 : Option Addr) (c0 : Nat) (l0 : List (S44)) (a1 a2 : ByteArray) (r1 : ByteArray) (r2 : Bool) (w : World) (hr0 : Kd.C k44 w A0 l0.length l0) (hc0 : l0.length ≤ c0) (h : zcP.f l0 a1 a2 = some (r1, r2)) :
  Calls Tryd.prog 21 #[.slice A0 l0.length c0, .string a1, .string a2] w fun e w' => e = .returned (.tuple #[.string r1, .bool r2]) ∧ Below w.heap.size w w' := by
 unfold zcP.f at h
 by_cases hl : l0.length < 4398046511104 ∧ (zbw l0 a1).length < 4398046511104
 ·
  rw [if_pos hl] at h
  cases h
  exact zdK A0 c0 l0 a1 a2 w hr0 hl.1 hl.2
 ·
  rw [if_neg hl] at h; cases h
end Go.Proofs.YtofoegknealilaaDoor.PAll
end

section
namespace Go.Proofs.YtofoegknealilaaDoor.Pure
open Go.RowKit Go.Proofs.YtofoegknealilaaDoor.PAll Go.Proofs.YtofoegknealilaaDoorW.PrintWords Go.Proofs.YtofoegknealilaaDoorW.PrintLast Go.Proofs.YtofoegknealilaaDoorEv Go.Proofs.YtofoegknealilaaDoorTab Go.Proofs.YtofoegknealilaaDoorWords
theorem zgk {α β : Type} {F : α → Nat → Option β} {v : α → β} : ∀ l : List α, (∀ c ∈ l, Evn (F c) (v c)) → ∃ K, ∀ k, K ≤ k → ∀ c ∈ l, F c k = some (v c)
 | [], _ => ⟨0, fun _ _ c h => by cases h⟩
 | x :: r, h => by
  obtain ⟨K1, h1⟩ := h x List.mem_cons_self
  obtain ⟨K2, h2⟩ := zgk r (fun c hc => h c (List.mem_cons_of_mem _ hc))
  refine ⟨max K1 K2, fun k hk c hc => ?_⟩
  rcases List.mem_cons.1 hc with rfl | hc
  ·
   exact h1 k o9
  ·
   exact h2 k o9 c hc
theorem zhN {c : Cl} (h : okC c) : zas.fits c = true := by
 obtain ⟨h0, h1, h2, h3, h4, h5⟩ := h
 unfold zas.fits
 simp only [Bool.and_eq_true, decide_eq_true_eq, List.all_eq_true]
 refine ⟨⟨⟨⟨⟨by omega, by omega⟩, by omega⟩, fun v hv => ?_⟩, by omega⟩, fun m hm => ?_⟩
 ·
  have := h4 v hv; omega
 ·
  obtain ⟨q0, q1, q2, q3⟩ := h5 m hm
  exact ⟨⟨⟨by omega, by omega⟩, by omega⟩, fun p hp => by have := q3 p hp; omega⟩
theorem zfp {t : List Cl} (ht : TS t) : Evn (fun k => zas.f k t) ((zbB t (mem t)).1, ((zbB t (mem t)).2 : Int)) := by
 obtain ⟨K, hK⟩ := zgk (F := fun (c : Cl) k => zay.f k t c.f1) (v := fun c => mem t c.f1) t (fun c _ => zfQ ht.toTB c.f1)
 refine ⟨K, fun k hk => ?_⟩
 have hm : ∀ c ∈ t, zas.mb k t c.f1 = mem t c.f1 := fun c hc => by unfold zas.mb; rw [hK k hk c hc]; rfl
 have ho : zas.ok k t = true := by
  unfold zas.ok
  simp only [Bool.and_eq_true, decide_eq_true_eq, List.all_eq_true]
  refine ⟨ht.toTB.small, fun c hc => ⟨⟨⟨zhN (ht.ok c hc), ?_⟩, ?_⟩, ?_⟩⟩
  ·
   have := ht.toTB.fields c.f1; omega
  ·
   rw [hK k hk c hc]; rfl
  ·
   rw [hm c hc]; have := zhQ ht.toTB c.f1; omega
 show zas.f k t = _
 unfold zas.f
 rw [if_pos ho, zas.zhj t (zas.mb k t) (mem t) (fun i hi => hm _ (zc3 t i hi))]
theorem zfe (a n : Int) (h : 0 < n) (hn : n ≤ 1000) (ha : (Lit.int .i64 a).wf = true) : ∃ p, zaL.f a n = some p ∧ 0 ≤ p ∧ p < n := by
 have h1 := Int.tmod_lt_of_pos a h
 have h3 : -n < a.tmod n := by
  have := Int.tmod_lt_of_pos (-a) h
  rw [Int.neg_tmod] at this
  omega
 unfold zaL.f
 rw [if_neg o9, if_neg o9]
 by_cases h2 : a.tmod n < 0
 ·
  rw [if_pos h2]
  exact ⟨_, rfl, by unfold wrap64; omega, by unfold wrap64; omega⟩
 ·
  rw [if_neg h2]; exact ⟨_, rfl, by omega, h1⟩
section
variable {t : List Cl} (g : Good t)
include g
end
def okT (t : List Cl) : Bool := ((zbB t (mem t)).1 == 0) && (((zbB t (mem t)).2 : Int) == 0)
theorem zgJ {t : List Cl} (ht : TS t) (l : List ByteArray) (hl : l.length < 1000000) : Evn (fun k => zaR.f k t l) (okT t && !(l.any fun s => !zbn t s)) := by
 obtain ⟨K, hK⟩ := zfp ht
 refine Evn.of K fun k hk => ?_
 unfold zaR.f
 have hk2 : zas.f k t = some _ := hK k hk
 rw [if_pos ⟨by have := ht.toTB.len; omega, hl⟩, hk2]
 rfl
theorem zhh (s : ByteArray) : ∀ (l : List ByteArray) (i : Nat), zaE.idx s l i = idxN s l i
 | [], _ => rfl
 | x :: r, i => by
  unfold zaE.idx idxN
  rw [zhh s r (i + 1)]
theorem zfJ (l : List ByteArray) (s : ByteArray) (hl : l.length < 4398046511104) : zaP.f l s = some (hasN s l) := by
 unfold zaP.f zaE.f
 rw [if_pos hl, Option.bind_some, zhh]; rfl
def subB (t : List Cl) (s u : ByteArray) : Bool := (okT t && !([s, u].any fun s => !zbn t s)) && (decide (s.toList = u.toList) || hasN u (supL t s))
theorem zeU {t : List Cl} (ht : TS t) (s u : ByteArray) : Evn (fun k => zaj.f k t s u) (subB t s u) := by
 refine Evn.bind (zgJ ht [s, u] s9) ?_
 have hlen := ht.toTB.len
 obtain ⟨b, hb⟩ : ∃ b, b = (okT t && !([s, u].any fun s => !zbn t s)) := ⟨_, rfl⟩
 unfold subB
 rw [← hb]
 cases b with
 | false => exact Evn.neg s9 (Evn.ret _)
 | true =>
  refine Evn.pos rfl ?_
  by_cases h : s.toList = u.toList
  ·
   refine Evn.pos h ((Evn.ret _).val ?_)
   simp [h]
  ·
   refine Evn.neg h (Evn.cbind (v := supL t s) ?_ (Evn.cbind (zfJ _ _ (zdr t s o9)) ((Evn.ret _).val ?_)))
   ·
    unfold zbm.f; rw [if_pos o9]
   ·
    simp [h]
section
variable {t : List Cl} (g : Good t)
include g
theorem Good.sup {i : Nat} (hi : i < t.length) : supL t (clsAt t i).f0 = (clsAt t i).f0 :: supL t (clsAt t i).f1 := by
 unfold supL
 rw [g.line hi]; rfl
theorem Good.suf (s : ByteArray) : ∀ u ∈ supL t s, supL t u <:+ supL t s := by
 refine g.zhm (P := fun s => ∀ u ∈ supL t s, supL t u <:+ supL t s) ?_ ?_ s
 ·
  intro nm h u hu
  unfold supL at hu
  rw [zey h] at hu; cases hu
 ·
  intro i hi ih u hu
  rw [g.sup hi] at hu ⊢
  rcases List.mem_cons.1 hu with rfl | hu
  ·
   rw [g.sup hi]; exact List.suffix_refl _
  ·
   exact (ih u hu).trans (List.suffix_cons _ _)
theorem Good.zdl {s u : ByteArray} (h : u ∈ supL t s) : ∃ r, supL t u = u :: r := by
 unfold supL at h
 obtain ⟨p, hp, rfl⟩ := List.mem_map.1 h
 exact ⟨_, g.sup (zbH t _ _ _ p hp)⟩
theorem Good.anti {a b : ByteArray} (h1 : b ∈ supL t a) (h2 : a ∈ supL t b) : a = b := by
 have e : supL t a = supL t b := by
  have s1 := g.suf a b h1
  have s2 := g.suf b a h2
  exact s2.eq_of_length (Nat.le_antisymm s2.length_le s1.length_le)
 obtain ⟨r, hr⟩ := g.zdl h1
 obtain ⟨r', hr'⟩ := g.zdl h2
 rw [hr, hr'] at e
 exact (List.cons.inj e).1
end
theorem zfr {t : List Cl} (h : okT t = true) : Good t := by
 unfold okT at h
 simp only [Bool.and_eq_true, beq_iff_eq] at h
 exact zhM h.1
theorem zco {t : List Cl} {s u : ByteArray} (ho : okT t = true) (hs : zbn t s = true) (hu : zbn t u = true) : subB t s u = true ↔ s = u ∨ u ∈ supL t s := by
 unfold subB
 simp only [ho, hs, hu, List.any_cons, List.any_nil, Bool.not_true, Bool.or_false, Bool.not_false, Bool.and_self, Bool.true_and, Bool.or_eq_true, decide_eq_true_eq, zdm]
 exact ⟨fun h => h.imp bl id, fun h => h.imp (congrArg _) id⟩
def tyL (t : List Cl) : List ByteArray := [⟨#[105, 110, 116]⟩, ⟨#[114, 101, 97, 108]⟩, ⟨#[98, 111, 111, 108]⟩, ⟨#[115, 116, 114]⟩, ⟨#[117, 110, 105, 116]⟩, ⟨#[63]⟩] ++ t.map fun c => c.f0
theorem zhL (t : List Cl) (hl : t.length ≤ 9) (b : List ByteArray) (hb : b.length ≤ 6) : ∀ (d i : Nat), d = t.length - i → i ≤ t.length → Evn (fun k => zar.l0 k t (b ++ (t.take i).map fun c => c.f0) (i : Int)) (b ++ t.map fun c => c.f0) := by
 intro d
 induction d with
 | zero =>
  intro i hd hi
  obtain rfl : i = t.length := by omega
  refine Evn.succ (Evn.neg o9 ((Evn.ret _).val ?_))
  rw [List.take_length]
 | succ d ih =>
  intro i hd hi
  have hil : i < t.length := by omega
  refine Evn.succ (Evn.pos o9 (Evn.pos o9 (Evn.pos (by simp; omega) ?_)))
  rw [rdC _ i hil, w1 hil o9]
  have e : (b ++ (t.take i).map fun c => c.f0) ++ [t[i].f0] = b ++ (t.take (i + 1)).map fun c => c.f0 := by
   rw [List.take_succ_eq_append_getElem hil, List.map_append, List.append_assoc]; rfl
  rw [e]
  exact ih (i + 1) o9 o9
theorem zg3 {t : List Cl} (hl : t.length ≤ 9) : Evn (fun k => zar.f k t) (tyL t) := by
 have h := zhL t hl [⟨#[105, 110, 116]⟩, ⟨#[114, 101, 97, 108]⟩, ⟨#[98, 111, 111, 108]⟩, ⟨#[115, 116, 114]⟩, ⟨#[117, 110, 105, 116]⟩, ⟨#[63]⟩] s9 t.length 0 rfl o9
 rw [List.take_zero] at h
 exact h
theorem zhU (t : List Cl) : (tyL t).length = 6 + t.length := by simp [tyL]; omega
theorem Good.typed {t : List Cl} (g : Good t) {s : ByteArray} (h : s ∈ tyL t) : zbn t s = true := by
 unfold tyL at h
 unfold zbn
 rcases List.mem_append.1 h with h | h
 ·
  simp only [List.mem_cons, List.not_mem_nil, or_false] at h
  rcases h with rfl | rfl | rfl | rfl | rfl | rfl
  ·
   rw [show ((tag2 ⟨#[105, 110, 116]⟩).2 == 0) = true by kernel_rfl, Bool.or_true]
  ·
   rw [show ((tag2 ⟨#[114, 101, 97, 108]⟩).2 == 0) = true by kernel_rfl, Bool.or_true]
  ·
   rw [show ((tag2 ⟨#[98, 111, 111, 108]⟩).2 == 0) = true by kernel_rfl, Bool.or_true]
  ·
   rw [show ((tag2 ⟨#[115, 116, 114]⟩).2 == 0) = true by kernel_rfl, Bool.or_true]
  ·
   rw [show ((tag2 ⟨#[117, 110, 105, 116]⟩).2 == 0) = true by kernel_rfl, Bool.or_true]
  ·
   rw [show ((⟨#[63]⟩ : ByteArray).toList == [63]) = true by kernel_rfl, Bool.or_true, Bool.true_or]
 ·
  obtain ⟨c, hc, rfl⟩ := List.mem_map.1 h
  obtain ⟨i, hi, rfl⟩ := List.mem_iff_getElem.1 hc
  have h1 := g.first i hi
  have e : clsAt t i = t[i] := rdC t i hi
  rw [e] at h1
  have : is1 t t[i].f0 = true := by unfold is1; rw [h1]; simp
  rw [this]; rfl
theorem rdB (l : List ByteArray) (i : Int) (h0 : 0 ≤ i) (h : i < (l.length : Int)) : rdOf ByteArray.empty l i ∈ l := by
 unfold rdOf
 rw [List.getD_eq_getElem?_getD, List.getElem?_eq_getElem o9]
 exact List.getElem_mem _
end Go.Proofs.YtofoegknealilaaDoor.Pure
end

section
namespace Go.Proofs.YtofoegknealilaaDoor.Pure
open Go.RowKit Go.Proofs.YtofoegknealilaaDoor.PAll Go.Proofs.YtofoegknealilaaDoorW.PrintWords Go.Proofs.YtofoegknealilaaDoorW.PrintLast
theorem SubtypeKnown : zab.Pure := ⟨20, by kernel_rfl⟩
end Go.Proofs.YtofoegknealilaaDoor.Pure
end

section
namespace Go.Proofs.YtofoegknealilaaDoor.Pure
open Go.RowKit Go.Proofs.YtofoegknealilaaDoor.PAll Go.Proofs.YtofoegknealilaaDoorW.PrintWords Go.Proofs.YtofoegknealilaaDoorW.PrintLast Go.Proofs.YtofoegknealilaaDoorEv Go.Proofs.YtofoegknealilaaDoorTab Go.Proofs.YtofoegknealilaaDoorWords
theorem zg2 : Evn (fun k => zab.f k) true := by
 obtain ⟨K, hK⟩ := SubtypeKnown
 have h : ∀ d, zab.f (K + d) = some true := fun d => by
  induction d with
  | zero => exact hK
  | succ d ih => exact zab.mono (K + d) true ih
 refine Evn.of K fun k hk => ?_
 have := h (k - K)
 rwa [show K + (k - K) = k by omega] at this
theorem zdV (t : List Cl) (mb : ByteArray → List Mb) : ∀ ks : List Nat, (zbY t mb ks).1 = 0 → (zbY t mb ks).2 = 0
 | [], _ => rfl
 | k :: r, h => by
  unfold zbY at h ⊢
  cases hs : scanL (lookF t mb k) (List.range t.length) with
  | none =>
   rw [hs] at h
   exact zdV t mb r h
  | some i =>
   rw [hs] at h
   exact absurd h (zdd _ _ _ hs)
theorem zfY {t : List Cl} (h : (zbB t (mem t)).1 = 0) : okT t = true := by
 have h2 : (zbB t (mem t)).2 = 0 := by
  unfold zbB at h ⊢
  by_cases hl : 40 < t.length
  ·
   rw [if_pos hl] at h; simp at h
  ·
   rw [if_neg hl] at h ⊢; exact zdV t _ _ h
 unfold okT
 rw [h, h2]; rfl
section
variable {t : List Cl} (g : Good t) (ho : okT t = true) {x y z : ByteArray} (hx : x ∈ tyL t) (hy : y ∈ tyL t) (hz : z ∈ tyL t)
include g ho
theorem zfD (hx : x ∈ tyL t) : subB t x x = true := (zco ho (g.typed hx) (g.typed hx)).2 (.inl rfl)
end
theorem zgo {t : List Cl} (ht : TS t) (s u : ByteArray) : Evn (fun k => zaG.f k t s u) (joinF (okT t && !([s, u].any fun s => !zbn t s)) t s u) := by
 obtain ⟨K, hK⟩ := zgJ ht [s, u] s9
 refine Evn.of K fun k hk => ?_
 have hk2 : zaR.f k t [s, u] = some _ := hK k hk
 unfold zaG.f
 rw [hk2]; rfl
theorem zdE {t : List Cl} {x y n : ByteArray} (h : joinN t x y = some n) : n ∈ supL t x ∧ n ∈ supL t y := by
 unfold joinN at h
 have h2 := List.find?_some (p := fun n => hasN n (supL t y)) h
 exact ⟨List.mem_of_find?_eq_some h, (zdm _ _).1 h2⟩
theorem zef {t : List Cl} {x y : ByteArray} (h : joinN t x y = none) (n : ByteArray) (hx : n ∈ supL t x) (hy : n ∈ supL t y) : False := by
 unfold joinN at h
 have := List.find?_eq_none.1 h n hx
 exact this ((zdm _ _).2 hy)
section
variable {t : List Cl} (g : Good t)
include g
theorem Good.zda (y : ByteArray) (x : ByteArray) : ∀ n m, joinN t x y = some n → m ∈ supL t x → m ∈ supL t y → m ∈ supL t n := by
 refine g.zhm (P := fun x => ∀ n m, joinN t x y = some n → m ∈ supL t x → m ∈ supL t y → m ∈ supL t n) ?_ ?_ x
 ·
  intro nm h n m _ hm _
  unfold supL at hm
  rw [zey h] at hm; cases hm
 ·
  intro i hi ih n m hn hm hy
  by_cases hh : hasN (clsAt t i).f0 (supL t y) = true
  ·
   have e : n = (clsAt t i).f0 := by
    unfold joinN at hn
    rw [g.sup hi, List.find?_cons_of_pos (p := fun n => hasN n (supL t y)) hh] at hn
    exact (Option.some.inj hn).symm
   rw [e]; exact hm
  ·
   have e : joinN t (clsAt t i).f1 y = some n := by
    unfold joinN at hn ⊢
    rw [g.sup hi, List.find?_cons_of_neg (p := fun n => hasN n (supL t y)) hh] at hn
    exact hn
   rw [g.sup hi] at hm
   rcases List.mem_cons.1 hm with rfl | hm
   ·
    exact absurd ((zdm _ _).2 hy) hh
   ·
    exact ih n m e hm hy
theorem Good.zgA (x y : ByteArray) : joinN t x y = joinN t y x := by
 cases h1 : joinN t x y with
 | none =>
  cases h2 : joinN t y x with
  | none => rfl
  | some n => exact (zef h1 n (zdE h2).2 (zdE h2).1).elim
 | some n =>
  obtain ⟨a1, a2⟩ := zdE h1
  cases h2 : joinN t y x with
  | none => exact (zef h2 n a2 a1).elim
  | some m =>
   obtain ⟨b1, b2⟩ := zdE h2
   rw [g.anti (g.zda y x n m h1 b2 b1) (g.zda x y m n h2 a2 a1)]
omit g in
theorem zh7 {s u : ByteArray} (h : u ∈ supL t s) : u ∈ tyL t := by
 unfold supL at h
 obtain ⟨p, hp, rfl⟩ := List.mem_map.1 h
 exact List.mem_append.2 (.inr (List.mem_map.2 ⟨_, zc3 t p (zbH t _ _ _ p hp), rfl⟩))
theorem zfV (x y : ByteArray) : joinF true t x y = joinF true t y x := by
 by_cases h : x.toList = y.toList
 ·
  rw [bl h]
 ·
  unfold joinF
  rw [if_neg (show ¬ true = false by decide), if_neg (show ¬ true = false by decide), g.zgA x y, if_neg h, if_neg (fun e => h e.symm)]
variable (ho : okT t = true)
include ho
theorem zga {x y z : ByteArray} (hx : x ∈ tyL t) (hy : y ∈ tyL t) (hz : z ∈ tyL t) (hne : x ≠ y) (h1 : subB t x z = true) (h2 : subB t y z = true) : z ∈ supL t x ∧ z ∈ supL t y := by
 rcases (zco ho (g.typed hx) (g.typed hz)).1 h1 with e1 | m1
 ·
  rcases (zco ho (g.typed hy) (g.typed hz)).1 h2 with e2 | m2
  ·
   exact absurd (e1.trans e2.symm) hne
  ·
   obtain ⟨r, hr⟩ := g.zdl m2
   exact ⟨by rw [e1, hr]; exact List.mem_cons_self, m2⟩
 ·
  rcases (zco ho (g.typed hy) (g.typed hz)).1 h2 with e2 | m2
  ·
   obtain ⟨r, hr⟩ := g.zdl m1
   exact ⟨m1, by rw [e2, hr]; exact List.mem_cons_self⟩
  ·
   exact ⟨m1, m2⟩
theorem zgm {x y z : ByteArray} (hx : x ∈ tyL t) (hy : y ∈ tyL t) (hz : z ∈ tyL t) :
  ((joinF true t x y).2 = true ∧ subB t x (joinF true t x y).1 = true ∧ subB t y (joinF true t x y).1 = true ∧ (subB t x z = true → subB t y z = true → subB t (joinF true t x y).1 z = true)) ∨
  ((joinF true t x y).2 = false ∧ (joinF true t x y).1 = ⟨#[]⟩ ∧ ¬ (subB t x z = true ∧ subB t y z = true)) := by
 unfold joinF
 rw [if_neg d9]
 by_cases h : x.toList = y.toList
 ·
  rw [if_pos h]
  have e := bl h
  exact .inl ⟨rfl, zfD g ho hx, by rw [← e]; exact zfD g ho hx, fun h _ => h⟩
 ·
  rw [if_neg h]
  have hne : x ≠ y := fun e => h (by rw [e])
  cases hj : joinN t x y with
  | some n =>
   obtain ⟨a1, a2⟩ := zdE hj
   have hn := zh7 a1
   refine .inl ⟨rfl, (zco ho (g.typed hx) (g.typed hn)).2 (.inr a1), (zco ho (g.typed hy) (g.typed hn)).2 (.inr a2), fun h1 h2 => ?_⟩
   obtain ⟨b1, b2⟩ := zga g ho hx hy hz hne h1 h2
   exact (zco ho (g.typed hn) (g.typed hz)).2 (.inr (g.zda y x n z hj b1 b2))
  | none =>
   refine .inr ⟨rfl, rfl, fun ⟨h1, h2⟩ => ?_⟩
   obtain ⟨b1, b2⟩ := zga g ho hx hy hz hne h1 h2
   exact zef hj z b1 b2
end
theorem zgG {t : List Cl} (ht : TS t) (ho : okT t = true) {x y z : ByteArray} (hx : x ∈ tyL t) (hy : y ∈ tyL t) (hz : z ∈ tyL t) (b : Bool) (hb : b = true ↔ subB t x z = true ∧ subB t y z = true) :
  Evn (fun k => chaperonlaw06_SubtypeJoin.j2 k t true x y z (joinF true t x y).1 (joinF true t x y).2 b) true := by
 have g := zfr ho
 rcases zgm g ho hx hy hz with ⟨h1, h2, h3, h4⟩ | ⟨h1, h2, h3⟩
 ·
  obtain ⟨j, hj⟩ : ∃ j, j = (joinF true t x y).1 := ⟨_, rfl⟩
  rw [← hj] at h2 h3 h4 ⊢
  rw [h1]
  refine Evn.succ (Evn.congr (g' := fun k => (zaj.f k t x j).bind fun u => if u = true then ((zaj.f k t y j).bind fun v => if v = true then (if b = true then ((zaj.f k t j z).bind fun w => some w) else some true) else none) else none) (fun k => rfl) ?_)
  refine Evn.bind (zeU ht x j) (Evn.pos h2 (Evn.bind (zeU ht y j) (Evn.pos h3 ?_)))
  by_cases hbt : b = true
  ·
   obtain ⟨c1, c2⟩ := hb.1 hbt
   exact Evn.pos hbt (Evn.bind (zeU ht j z) ((Evn.ret _).val (h4 c1 c2)))
  ·
   exact Evn.neg hbt (Evn.ret _)
 ·
  obtain ⟨j, hj⟩ : ∃ j, j = (joinF true t x y).1 := ⟨_, rfl⟩
  rw [← hj] at h2 ⊢
  rw [h1]
  have h2' : j.toList = ([] : List UInt8) := by rw [h2]; kernel_rfl
  have hbf : b = false := by
   cases b with
   | false => rfl
   | true => exact (h3 (hb.1 rfl)).elim
  refine Evn.succ (Evn.congr (g' := fun k => if j.toList = ([] : List UInt8) then some (!b) else none) (fun k => rfl) (Evn.pos h2' ((Evn.ret _).val ?_)))
  rw [hbf]; rfl
theorem SubtypeJoin : chaperonlaw06_SubtypeJoin.Pure := by
 intro t a b c hlen _ ha hb hc
 refine Evn.ex (g := fun k => chaperonlaw06_SubtypeJoin.f k t a b c) ?_
 refine Evn.bind zg2 ?_
 obtain ⟨bt, h1, h2⟩ := zgP t
 refine Evn.bind h1 ?_
 have hj : Evn (fun k => chaperonlaw06_SubtypeJoin.j0 k t a b c true true) true := Evn.succ (Evn.congr (g' := fun _ => some true) (fun k => rfl) (Evn.ret _))
 cases bt with
 | true => exact Evn.pos rfl hj
 | false =>
  have ht := h2 rfl
  have hl := ht.toTB.len
  have hn := zhU t
  refine Evn.neg s9 (Evn.bind (zfp ht) ?_)
  by_cases h0 : (zbB t (mem t)).1 = 0
  ·
   have ho := zfY h0
   have g := zfr ho
   have e0 : ((zbB t (mem t)).1 != 0) = false := by rw [h0]; rfl
   show Evn (fun k => chaperonlaw06_SubtypeJoin.j0 k t a b c true ((zbB t (mem t)).1 != 0)) true
   obtain ⟨nb, hnb⟩ : ∃ nb, nb = ((zbB t (mem t)).1 != 0) := ⟨_, rfl⟩
   rw [← hnb]
   refine Evn.succ (Evn.neg (by rw [hnb, e0]; simp) (Evn.bind (zg3 hl) ?_))
   obtain ⟨p, hp, p0, p1⟩ := zfe a ((tyL t).length : Int) o9 o9 ha
   obtain ⟨q, hq, q0, q1⟩ := zfe b ((tyL t).length : Int) o9 o9 hb
   obtain ⟨s, hs, s0, s1⟩ := zfe c ((tyL t).length : Int) o9 o9 hc
   refine Evn.cbind hp (Evn.pos p0 (Evn.pos p1 (Evn.cbind hq (Evn.pos q0 (Evn.pos q1 (Evn.cbind hs (Evn.pos s0 (Evn.pos s1 ?_))))))))
   have hx := rdB (tyL t) p p0 p1
   have hy := rdB (tyL t) q q0 q1
   have hz := rdB (tyL t) s s0 s1
   obtain ⟨x, ex⟩ : ∃ x, x = rdOf ByteArray.empty (tyL t) p := ⟨_, rfl⟩
   obtain ⟨y, ey⟩ : ∃ y, y = rdOf ByteArray.empty (tyL t) q := ⟨_, rfl⟩
   obtain ⟨z, ez⟩ : ∃ z, z = rdOf ByteArray.empty (tyL t) s := ⟨_, rfl⟩
   rw [← ex] at hx
   rw [← ey] at hy
   rw [← ez] at hz
   rw [← ex, ← ey, ← ez]
   have f1 : (okT t && !([x, y].any fun s => !zbn t s)) = true := by simp [ho, g.typed hx, g.typed hy]
   have f2 : (okT t && !([y, x].any fun s => !zbn t s)) = true := by simp [ho, g.typed hx, g.typed hy]
   have e1 := zgo ht x y
   have e2 := zgo ht y x
   rw [f1] at e1
   rw [f2, ← zfV g x y] at e2
   refine Evn.bind e1 (Evn.bind e2 (Evn.pos rfl ?_))
   have e3 : ((joinF true t x y).2 != (joinF true t x y).2) = false := by simp
   obtain ⟨nb2, hnb2⟩ : ∃ nb2, nb2 = ((joinF true t x y).2 != (joinF true t x y).2) := ⟨_, rfl⟩
   rw [← hnb2]
   refine Evn.succ (Evn.neg (by rw [hnb2, e3]; simp) (Evn.bind (zeU ht x z) ?_))
   by_cases hxz : subB t x z = true
   ·
    exact Evn.pos hxz (Evn.bind (zeU ht y z) (zgG ht ho hx hy hz _ ⟨fun h => ⟨hxz, h⟩, fun h => h.2⟩))
   ·
    exact Evn.neg hxz (zgG ht ho hx hy hz false ⟨fun h => (by cases h), fun h => absurd h.1 hxz⟩)
  ·
   have e0 : ((zbB t (mem t)).1 != 0) = true := by simpa using h0
   show Evn (fun k => chaperonlaw06_SubtypeJoin.j0 k t a b c true ((zbB t (mem t)).1 != 0)) true
   rw [e0]
   exact hj
end Go.Proofs.YtofoegknealilaaDoor.Pure
end
