/- Parts of the proof of one statement, packed: what the program's functions compute. No conditions. -/
import Derived.Test.YtofoegknealilaaDoorKSS1
import Derived.Test.YtofoegknealilaaDoorKSS3
import Derived.Test.YtofoegknealilaaDoorKSS2
import Derived.Below
set_option linter.unusedSimpArgs false
set_option linter.unusedVariables false
set_option maxRecDepth 100000
set_option maxHeartbeats 8000000
section
namespace Go.Proofs.YtofoegknealilaaDoor.PAll
open Go.RowKit Go.Proofs.YtofoegknealilaaDoorW.PrintWords Go.Proofs.YtofoegknealilaaDoorW.PrintLast Go.Proofs.YtofoegknealilaaDoorW.za4
attribute [local go_sem] zbg zbh zbw zbv za7 za8 zbf zbi
mutual
def zaf.l0 : Nat → List (S44) → Int → Option (Bool)
 | 0, _, _ => none
 | k + 1, x0, x3 => if x3 < (x0.length : Int) then (zaf.j1 k x0 x3 (decide (x3 < 10))) else (zaf.j1 k x0 x3 false)
def zaf.j1 : Nat → List (S44) → Int → Bool → Option (Bool)
 | 0, _, _, _ => none
 | k + 1, x0, x3, x14 => if x14 = true then (if 0 ≤ x3 then (if x3 < (x0.length : Int) then (if (((zai x0 x3).f0).size : Int) > 30 then (zaf.j2 k x0 x3 true ((zai x0 x3).f0) ((zai x0 x3).f1) ((zai x0 x3).f2) ((zai x0 x3).f3)) else (if (((zai x0 x3).f1).size : Int) > 30 then (zaf.j2 k x0 x3 true ((zai x0 x3).f0) ((zai x0 x3).f1) ((zai x0 x3).f2) ((zai x0 x3).f3)) else (if (((zai x0 x3).f2).length : Int) > 7 then (zaf.j2 k x0 x3 true ((zai x0 x3).f0) ((zai x0 x3).f1) ((zai x0 x3).f2) ((zai x0 x3).f3)) else (if (((zai x0 x3).f3).length : Int) > 7 then (zaf.j2 k x0 x3 true ((zai x0 x3).f0) ((zai x0 x3).f1) ((zai x0 x3).f2) ((zai x0 x3).f3)) else ((zam.f k ((zai x0 x3).f2)).bind fun t173 => (zaf.j2 k x0 x3 t173 ((zai x0 x3).f0) ((zai x0 x3).f1) ((zai x0 x3).f2) ((zai x0 x3).f3))))))) else (none)) else (none)) else (some (decide ((x0.length : Int) > 9)))
def zaf.j2 : Nat → List (S44) → Int → Bool → ByteArray → ByteArray → List (S74) → List (S57) → Option (Bool)
 | 0, _, _, _, _, _, _, _ => none
 | k + 1, x0, x3, x47, x173000, x173001, x173002, x173003 => if x47 = true then (some true) else (zaf.l1 k x0 x3 0 x173000 x173001 x173002 x173003)
def zaf.l1 : Nat → List (S44) → Int → Int → ByteArray → ByteArray → List (S74) → List (S57) → Option (Bool)
 | 0, _, _, _, _, _, _, _ => none
 | k + 1, x0, x3, x5, x173000, x173001, x173002, x173003 => if x5 < (x173003.length : Int) then (if 0 ≤ x5 then (if (((zaR x173003 x5).f0).size : Int) > 30 then (some true) else (if (((zaR x173003 x5).f2).size : Int) > 30 then (some true) else (if (((zaR x173003 x5).f1).length : Int) > 10 then (some true) else ((zam.f k ((zaR x173003 x5).f1)).bind fun t176 => (if t176 = true then (some true) else (zaf.l1 k x0 x3 (wrap64 (x5 + 1)) x173000 x173001 x173002 x173003)))))) else (none)) else (zaf.l0 k x0 (wrap64 (x3 + 1)))
end
def zaf.f (k : Nat) (l0 : List (S44)) : Option (Bool) := zaf.l0 k l0 0
theorem zaf.zbI : ∀ k, (∀ y0 y1, LeO (zaf.l0 k y0 y1) (zaf.l0 (k + 1) y0 y1)) ∧ (∀ y0 y1 y2, LeO (zaf.j1 k y0 y1 y2) (zaf.j1 (k + 1) y0 y1 y2)) ∧ (∀ y0 y1 y2 y3 y4 y5 y6, LeO (zaf.j2 k y0 y1 y2 y3 y4 y5 y6) (zaf.j2 (k + 1) y0 y1 y2 y3 y4 y5 y6)) ∧ (∀ y0 y1 y2 y3 y4 y5 y6, LeO (zaf.l1 k y0 y1 y2 y3 y4 y5 y6) (zaf.l1 (k + 1) y0 y1 y2 y3 y4 y5 y6))
 | 0 => ⟨fun _ _ r h => by simp [zaf.l0] at h, fun _ _ _ r h => by simp [zaf.j1] at h, fun _ _ _ _ _ _ _ r h => by simp [zaf.j2] at h, fun _ _ _ _ _ _ _ r h => by simp [zaf.l1] at h⟩
 | k + 1 => by
  obtain ⟨ih0, ih1, ih2, ih3⟩ := zaf.zbI k
  refine ⟨?_, ?_, ?_, ?_⟩
  ·
   intro y0 y1
   unfold zaf.l0
   repeat' first
   | (with_reducible exact ih0 _ _)
   | (with_reducible exact ih1 _ _ _)
   | (with_reducible exact ih2 _ _ _ _ _ _ _)
   | (with_reducible exact ih3 _ _ _ _ _ _ _)
   | (with_reducible exact zam.mono _ _)
   | (with_reducible exact LeO.refl _)
   | (with_reducible exact LeO.none _)
   | (with_reducible refine LeO.ite ?_ ?_)
   | (with_reducible refine LeO.bind ?_ (fun _ => ?_))
   | exact ih0 _ _
   | exact ih1 _ _ _
   | exact ih2 _ _ _ _ _ _ _
   | exact ih3 _ _ _ _ _ _ _
   | exact zam.mono _ _
   | exact LeO.none _
   | refine LeO.ite ?_ ?_
   | refine LeO.bind ?_ (fun _ => ?_)
  ·
   intro y0 y1 y2
   unfold zaf.j1
   repeat' first
   | (with_reducible exact ih0 _ _)
   | (with_reducible exact ih1 _ _ _)
   | (with_reducible exact ih2 _ _ _ _ _ _ _)
   | (with_reducible exact ih3 _ _ _ _ _ _ _)
   | (with_reducible exact zam.mono _ _)
   | (with_reducible exact LeO.refl _)
   | (with_reducible exact LeO.none _)
   | (with_reducible refine LeO.ite ?_ ?_)
   | (with_reducible refine LeO.bind ?_ (fun _ => ?_))
   | exact ih0 _ _
   | exact ih1 _ _ _
   | exact ih2 _ _ _ _ _ _ _
   | exact ih3 _ _ _ _ _ _ _
   | exact zam.mono _ _
   | exact LeO.none _
   | refine LeO.ite ?_ ?_
   | refine LeO.bind ?_ (fun _ => ?_)
  ·
   intro y0 y1 y2 y3 y4 y5 y6
   unfold zaf.j2
   repeat' first
   | (with_reducible exact ih0 _ _)
   | (with_reducible exact ih1 _ _ _)
   | (with_reducible exact ih2 _ _ _ _ _ _ _)
   | (with_reducible exact ih3 _ _ _ _ _ _ _)
   | (with_reducible exact zam.mono _ _)
   | (with_reducible exact LeO.refl _)
   | (with_reducible exact LeO.none _)
   | (with_reducible refine LeO.ite ?_ ?_)
   | (with_reducible refine LeO.bind ?_ (fun _ => ?_))
   | exact ih0 _ _
   | exact ih1 _ _ _
   | exact ih2 _ _ _ _ _ _ _
   | exact ih3 _ _ _ _ _ _ _
   | exact zam.mono _ _
   | exact LeO.none _
   | refine LeO.ite ?_ ?_
   | refine LeO.bind ?_ (fun _ => ?_)
  ·
   intro y0 y1 y2 y3 y4 y5 y6
   unfold zaf.l1
   repeat' first
   | (with_reducible exact ih0 _ _)
   | (with_reducible exact ih1 _ _ _)
   | (with_reducible exact ih2 _ _ _ _ _ _ _)
   | (with_reducible exact ih3 _ _ _ _ _ _ _)
   | (with_reducible exact zam.mono _ _)
   | (with_reducible exact LeO.refl _)
   | (with_reducible exact LeO.none _)
   | (with_reducible refine LeO.ite ?_ ?_)
   | (with_reducible refine LeO.bind ?_ (fun _ => ?_))
   | exact ih0 _ _
   | exact ih1 _ _ _
   | exact ih2 _ _ _ _ _ _ _
   | exact ih3 _ _ _ _ _ _ _
   | exact zam.mono _ _
   | exact LeO.none _
   | refine LeO.ite ?_ ?_
   | refine LeO.bind ?_ (fun _ => ?_)
theorem zaf.mono : ∀ a0 k, LeO (zaf.f k a0) (zaf.f (k + 1) a0) := by
 intro a0 k
 obtain ⟨ih0, ih1, ih2, ih3⟩ := zaf.zbI k
 unfold zaf.f
 repeat' first
   | (with_reducible exact ih0 _ _)
   | (with_reducible exact ih1 _ _ _)
   | (with_reducible exact ih2 _ _ _ _ _ _ _)
   | (with_reducible exact ih3 _ _ _ _ _ _ _)
   | (with_reducible exact zam.mono _ _)
   | (with_reducible exact LeO.refl _)
   | (with_reducible exact LeO.none _)
   | (with_reducible refine LeO.ite ?_ ?_)
   | (with_reducible refine LeO.bind ?_ (fun _ => ?_))
   | exact ih0 _ _
   | exact ih1 _ _ _
   | exact ih2 _ _ _ _ _ _ _
   | exact ih3 _ _ _ _ _ _ _
   | exact zam.mono _ _
   | exact LeO.none _
   | refine LeO.ite ?_ ?_
   | refine LeO.bind ?_ (fun _ => ?_)
theorem zaf.calls (k : Nat) (A0 : Option Addr) (c0 : Nat) (l0 : List (S44)) (r : Bool) (w : World) (hr0 : Kd.C k44 w A0 l0.length l0) (hc0 : l0.length ≤ c0) (h : zaf.f k l0 = some r) :
  Calls Tryd.prog 14 #[.slice A0 l0.length c0] w fun e w' => e = .returned (.bool r) ∧ Below w.heap.size w w' := by
 have hu44 := Tryd.underlying44
 have hu57 := Tryd.underlying57
 have HR0 := zaa.mk hr0
 have HC0 := zaa.mk hc0
 clear hr0 hc0
 have HB := zaa.mk (Below.refl w.heap.size w)
 have H : (zaf.l0 k l0 0) = some r := h
 clear h
 have H' := zaa.mk H
 clear H
 go_enter Tryd.func14, Tryd.ntmps14
 go_wp2
 go_loopg [3] k (fun kq v3 w' => ∃ (x3_1 : Int), v3 = .int .i64 x3_1 ∧ zaa (zaf.l0 kq l0 x3_1 = some r) ∧ zaa (kq ≤ k) ∧ zaa (Below w.heap.size w w'))
 case atStart => exact ⟨(0), (by first | rfl | (simp; done) | (simp [*]; done)), H', ⟨Nat.le_refl _⟩, ⟨by repeat (first | (with_reducible first | exact HB.out | apply zad | apply zac | apply zae) | exact HB.out)⟩⟩
 case round =>
  clear H'
  try clear c1
  obtain ⟨x3_1, rfl, HA, HK1, HB⟩ := hrel
  cases gk with
  | zero => exact absurd HA.out (by simp [zaf.l0])
  | succ k1 =>
   have H := HA.out
   clear HA
   simp only [zaf.l0] at H
   have HC2 := zaa.mk H
   clear H
   go_upto_region 2 with (fail)
   go_cut [14] (fun v14 wc => ∃ (kq : Nat) (x14_1 : Bool), v14 = .bool x14_1 ∧ zaa (zaf.j1 kq l0 x3_1 x14_1 = some r) ∧ zaa (kq ≤ k1) ∧ zaa (Below w.heap.size w wc))
   case first =>
    have H := HC2.out
    clear HC2
    by_cases c3 : x3_1 < (l0.length : Int)
    ·
     rw [if_pos c3] at H
     have c3b0 : decide (x3_1 < (l0.length : Int)) = true := decide_eq_true c3
     clear c3
     (first | rw [c3b0] | (simp only [i64_w, i32_w]; rw [c3b0]) | skip)
     have H' := zaa.mk H
     clear H
     go_wp2
     go_meet
     case rel => exact ⟨_, (decide (x3_1 < 10)), (by first | rfl | (simp; done) | (simp [*]; done)), H', ⟨by have := HK1.out; first | omega | exact Nat.le_refl _⟩, ⟨by repeat (first | (with_reducible first | exact HB.out | apply zad | apply zac | apply zae) | exact HB.out)⟩⟩
    ·
     rw [if_neg c3] at H
     have c3b0 : decide (x3_1 < (l0.length : Int)) = false := decide_eq_false c3
     clear c3
     (first | rw [c3b0] | (simp only [i64_w, i32_w]; rw [c3b0]) | skip)
     have H' := zaa.mk H
     clear H
     go_wp2
     go_meet
     case rel => exact ⟨_, (false), (by first | rfl | (simp; done) | (simp [*]; done)), H', ⟨by have := HK1.out; first | omega | exact Nat.le_refl _⟩, ⟨by repeat (first | (with_reducible first | exact HB.out | apply zad | apply zac | apply zae) | exact HB.out)⟩⟩
   case rest =>
    clear HC2
    try clear c1
    try clear p2
    try clear c3
    try clear c3b0
    obtain ⟨kq, x14_1, rfl, HA, HJ1, HB⟩ := hcut
    cases kq with
    | zero => exact absurd HA.out (by simp [zaf.j1])
    | succ kj1 =>
     have H := HA.out
     clear HA
     simp only [zaf.j1] at H
     by_cases c4 : x14_1 = true
     ·
      subst c4
      have H1 : (if 0 ≤ x3_1 then (if x3_1 < (l0.length : Int) then (if (((zai l0 x3_1).f0).size : Int) > 30 then (zaf.j2 kj1 l0 x3_1 true ((zai l0 x3_1).f0) ((zai l0 x3_1).f1) ((zai l0 x3_1).f2) ((zai l0 x3_1).f3)) else (if (((zai l0 x3_1).f1).size : Int) > 30 then (zaf.j2 kj1 l0 x3_1 true ((zai l0 x3_1).f0) ((zai l0 x3_1).f1) ((zai l0 x3_1).f2) ((zai l0 x3_1).f3)) else (if (((zai l0 x3_1).f2).length : Int) > 7 then (zaf.j2 kj1 l0 x3_1 true ((zai l0 x3_1).f0) ((zai l0 x3_1).f1) ((zai l0 x3_1).f2) ((zai l0 x3_1).f3)) else (if (((zai l0 x3_1).f3).length : Int) > 7 then (zaf.j2 kj1 l0 x3_1 true ((zai l0 x3_1).f0) ((zai l0 x3_1).f1) ((zai l0 x3_1).f2) ((zai l0 x3_1).f3)) else ((zam.f kj1 ((zai l0 x3_1).f2)).bind fun t173 => (zaf.j2 kj1 l0 x3_1 t173 ((zai l0 x3_1).f0) ((zai l0 x3_1).f1) ((zai l0 x3_1).f2) ((zai l0 x3_1).f3))))))) else (none)) else (none)) = some r := by rw [if_pos rfl] at H; exact H
      clear H
      have H := H1
      clear H1
      by_cases c5 : 0 ≤ x3_1
      ·
       rw [if_pos c5] at H
       have c5b0 : decide (0 ≤ x3_1) = true := decide_eq_true c5
       clear c5
       by_cases c6 : x3_1 < (l0.length : Int)
       ·
        rw [if_pos c6] at H
        have c6b0 : decide (x3_1 < (l0.length : Int)) = true := decide_eq_true c6
        clear c6
        have HC7 := zaa.mk H
        clear H
        have p171 : 0 ≤ (x3_1 : Int) := of_decide_eq_true (by first | (with_reducible assumption) | assumption)
        have q171 : x3_1 < (l0.length : Int) := of_decide_eq_true (by first | (with_reducible assumption) | assumption)
        obtain ⟨ad171, A171_2, c171_2, A171_3, c171_3, e171, hx171_0, hx171_1, hx171_2, hx171_3, hl171_2, hi171_2, hl171_3, hi171_3⟩ := zbF HR0.out x3_1 p171 q171
        cases e171
        replace hx171_0 := (HB.out.cell (World.block_lt_of_cell? w _ hx171_0)).trans hx171_0
        replace hx171_1 := (HB.out.cell (World.block_lt_of_cell? w _ hx171_1)).trans hx171_1
        replace hx171_2 := (HB.out.cell (World.block_lt_of_cell? w _ hx171_2)).trans hx171_2
        replace hx171_3 := (HB.out.cell (World.block_lt_of_cell? w _ hx171_3)).trans hx171_3
        have HR171_2 := zaa.mk hi171_2
        have HC171_2 := zaa.mk hl171_2
        clear hi171_2 hl171_2
        have HR171_3 := zaa.mk hi171_3
        have HC171_3 := zaa.mk hl171_3
        clear hi171_3 hl171_3
        replace p171 := eq_true p171
        replace q171 := eq_true q171
        go_upto_region 5 with (first | ((with_reducible refine zbp (N := 4) rfl ?_); (try (refine zbS (by rfl) ?_; dsimp only)); refine zbO ?hg (N := 4) ?hd (cs := #[.string (⟨#[]⟩ : ByteArray), .string (⟨#[]⟩ : ByteArray), .slice none 0 0, .slice none 0 0]) (t := 44) ?hr ?_; (case hd => rfl); (case hg => rfl); (case hr => first | (go_simp; done) | (go_simp; rfl)); intro gb172 hg w8 hbox hb; have n0_ := zaa.mk (zaq (by repeat (first | (with_reducible first | exact HB.out | apply zad | apply zac | apply zae) | exact HB.out)) hb); have n1_ := zaa.mk (hbox); have n2_ := zaa.mk ((by rw [hg]; exact (zaL (by repeat (first | (with_reducible first | exact HB.out | apply zad | apply zac | apply zae) | exact HB.out))) : w.heap.size ≤ gb172)); have n3_ := zaa.mk ((by rw [hg]; exact (zaL (by repeat (first | (with_reducible first | exact HB.out | apply zad | apply zac | apply zae) | exact HB.out))) : w.heap.size ≤ gb172)); clear HB; have HB := n0_; have BK172 := n1_; have GW172 := n2_; have GE172 := n3_; clear n0_ n1_ n2_ n3_; clear hb hbox hg; have hcz9_0 : w8.cell? ⟨gb172, 0, none⟩ = some (.string (⟨#[]⟩ : ByteArray)) := (zaB BK172.out 0).trans rfl; have hcz9_1 : w8.cell? ⟨gb172, 1, none⟩ = some (.string (⟨#[]⟩ : ByteArray)) := (zaB BK172.out 1).trans rfl; have hcz9_2 : w8.cell? ⟨gb172, 2, none⟩ = some (.slice none 0 0) := (zaB BK172.out 2).trans rfl; have hcz9_3 : w8.cell? ⟨gb172, 3, none⟩ = some (.slice none 0 0) := (zaB BK172.out 3).trans rfl; have hfz9_0 := zau BK172.out 0; have hfz9_1 := zau BK172.out 1; have hfz9_2 := zau BK172.out 2; have hfz9_3 := zau BK172.out 3))
        (try simp only [Act.put, List.setIfInBounds_toArray, List.set_cons_zero, List.set_cons_succ])
        go_cut [47] (fun v47 wc => ∃ (kq : Nat) (x47_6 : Bool), v47 = .bool x47_6 ∧ zaa (zaf.j2 kq l0 x3_1 x47_6 ((zai l0 x3_1).f0) ((zai l0 x3_1).f1) ((zai l0 x3_1).f2) ((zai l0 x3_1).f3) = some r) ∧ zaa (kq ≤ kj1) ∧ zaa (wc.heap[gb172]? = some (.cells #[.string ((zai l0 x3_1).f0), .string ((zai l0 x3_1).f1), (.slice A171_2 ((zai l0 x3_1).f2).length c171_2), (.slice A171_3 ((zai l0 x3_1).f3).length c171_3)] 44 (0, 0))) ∧ zaa (Below w.heap.size w wc))
        case first =>
         have H := HC7.out
         clear HC7
         by_cases c10 : (((zai l0 x3_1).f0).size : Int) > 30
         ·
          rw [if_pos c10] at H
          have c10b0 : decide (30 < (((zai l0 x3_1).f0).size : Int)) = true := decide_eq_true c10
          have c10b1 : decide (30 < ((zai l0 x3_1).f0).size) = true := decide_eq_true o9
          clear c10
          (first | rw [c10b0] | (simp only [i64_w, i32_w]; rw [c10b0]) | skip)
          have H' := zaa.mk H
          clear H
          have hcz11_0 : w8.cell? ⟨gb172, 0, none⟩ = some (.string (⟨#[]⟩ : ByteArray)) := (zaB BK172.out 0).trans rfl
          have hcz11_1 : w8.cell? ⟨gb172, 1, none⟩ = some (.string (⟨#[]⟩ : ByteArray)) := (zaB BK172.out 1).trans rfl
          have hcz11_2 : w8.cell? ⟨gb172, 2, none⟩ = some (.slice none 0 0) := (zaB BK172.out 2).trans rfl
          have hcz11_3 : w8.cell? ⟨gb172, 3, none⟩ = some (.slice none 0 0) := (zaB BK172.out 3).trans rfl
          have hfz11_0 := zau BK172.out 0
          have hfz11_1 := zau BK172.out 1
          have hfz11_2 := zau BK172.out 2
          have hfz11_3 := zau BK172.out 3
          go_wp2
          go_meet
          case rel => exact ⟨_, (true), (by first | rfl | (simp; done) | (simp [*]; done)), H', ⟨by have := HK1.out; have := HJ1.out; first | omega | exact Nat.le_refl _⟩, ⟨by (with_reducible repeat (first | refine zaD ?_ _ | refine zaI ?_ | refine zaE ?_ _)); refine zaK (cs := #[.string ((zai l0 x3_1).f0), .string ((zai l0 x3_1).f1), .slice A171_2 ((zai l0 x3_1).f2).length c171_2, .slice none 0 0]) ?_ 3 _ rfl; (with_reducible repeat (first | refine zaD ?_ _ | refine zaI ?_ | refine zaE ?_ _)); refine zaK (cs := #[.string ((zai l0 x3_1).f0), .string ((zai l0 x3_1).f1), .slice none 0 0, .slice none 0 0]) ?_ 2 _ rfl; (with_reducible repeat (first | refine zaD ?_ _ | refine zaI ?_ | refine zaE ?_ _)); refine zaK (cs := #[.string ((zai l0 x3_1).f0), .string (⟨#[]⟩ : ByteArray), .slice none 0 0, .slice none 0 0]) ?_ 1 _ rfl; (with_reducible repeat (first | refine zaD ?_ _ | refine zaI ?_ | refine zaE ?_ _)); refine zaK (cs := #[.string (⟨#[]⟩ : ByteArray), .string (⟨#[]⟩ : ByteArray), .slice none 0 0, .slice none 0 0]) ?_ 0 _ rfl; (with_reducible repeat (first | refine zaD ?_ _ | refine zaI ?_ | refine zaE ?_ _)); exact BK172.out⟩, ⟨by repeat (first | (with_reducible first | exact HB.out | apply zad | apply zac | apply zae | refine zav ?_ GE172.out) | exact HB.out)⟩⟩
         ·
          rw [if_neg c10] at H
          have c10b0 : decide (30 < (((zai l0 x3_1).f0).size : Int)) = false := decide_eq_false c10
          have c10b1 : decide (30 < ((zai l0 x3_1).f0).size) = false := decide_eq_false o9
          clear c10
          (first | rw [c10b0] | (simp only [i64_w, i32_w]; rw [c10b0]) | skip)
          by_cases c12 : (((zai l0 x3_1).f1).size : Int) > 30
          ·
           rw [if_pos c12] at H
           have c12b0 : decide (30 < (((zai l0 x3_1).f1).size : Int)) = true := decide_eq_true c12
           have c12b1 : decide (30 < ((zai l0 x3_1).f1).size) = true := decide_eq_true o9
           clear c12
           have H' := zaa.mk H
           clear H
           have hcz13_0 : w8.cell? ⟨gb172, 0, none⟩ = some (.string (⟨#[]⟩ : ByteArray)) := (zaB BK172.out 0).trans rfl
           have hcz13_1 : w8.cell? ⟨gb172, 1, none⟩ = some (.string (⟨#[]⟩ : ByteArray)) := (zaB BK172.out 1).trans rfl
           have hcz13_2 : w8.cell? ⟨gb172, 2, none⟩ = some (.slice none 0 0) := (zaB BK172.out 2).trans rfl
           have hcz13_3 : w8.cell? ⟨gb172, 3, none⟩ = some (.slice none 0 0) := (zaB BK172.out 3).trans rfl
           have hfz13_0 := zau BK172.out 0
           have hfz13_1 := zau BK172.out 1
           have hfz13_2 := zau BK172.out 2
           have hfz13_3 := zau BK172.out 3
           go_wp2
           go_meet
           case rel => exact ⟨_, (true), (by first | rfl | (simp; done) | (simp [*]; done)), H', ⟨by have := HK1.out; have := HJ1.out; first | omega | exact Nat.le_refl _⟩, ⟨by (with_reducible repeat (first | refine zaD ?_ _ | refine zaI ?_ | refine zaE ?_ _)); refine zaK (cs := #[.string ((zai l0 x3_1).f0), .string ((zai l0 x3_1).f1), .slice A171_2 ((zai l0 x3_1).f2).length c171_2, .slice none 0 0]) ?_ 3 _ rfl; (with_reducible repeat (first | refine zaD ?_ _ | refine zaI ?_ | refine zaE ?_ _)); refine zaK (cs := #[.string ((zai l0 x3_1).f0), .string ((zai l0 x3_1).f1), .slice none 0 0, .slice none 0 0]) ?_ 2 _ rfl; (with_reducible repeat (first | refine zaD ?_ _ | refine zaI ?_ | refine zaE ?_ _)); refine zaK (cs := #[.string ((zai l0 x3_1).f0), .string (⟨#[]⟩ : ByteArray), .slice none 0 0, .slice none 0 0]) ?_ 1 _ rfl; (with_reducible repeat (first | refine zaD ?_ _ | refine zaI ?_ | refine zaE ?_ _)); refine zaK (cs := #[.string (⟨#[]⟩ : ByteArray), .string (⟨#[]⟩ : ByteArray), .slice none 0 0, .slice none 0 0]) ?_ 0 _ rfl; (with_reducible repeat (first | refine zaD ?_ _ | refine zaI ?_ | refine zaE ?_ _)); exact BK172.out⟩, ⟨by repeat (first | (with_reducible first | exact HB.out | apply zad | apply zac | apply zae | refine zav ?_ GE172.out) | exact HB.out)⟩⟩
          ·
           rw [if_neg c12] at H
           have c12b0 : decide (30 < (((zai l0 x3_1).f1).size : Int)) = false := decide_eq_false c12
           have c12b1 : decide (30 < ((zai l0 x3_1).f1).size) = false := decide_eq_false o9
           clear c12
           by_cases c14 : (((zai l0 x3_1).f2).length : Int) > 7
           ·
            rw [if_pos c14] at H
            have c14b0 : decide (7 < (((zai l0 x3_1).f2).length : Int)) = true := decide_eq_true c14
            have c14b1 : decide (7 < ((zai l0 x3_1).f2).length) = true := decide_eq_true o9
            clear c14
            have H' := zaa.mk H
            clear H
            have hcz15_0 : w8.cell? ⟨gb172, 0, none⟩ = some (.string (⟨#[]⟩ : ByteArray)) := (zaB BK172.out 0).trans rfl
            have hcz15_1 : w8.cell? ⟨gb172, 1, none⟩ = some (.string (⟨#[]⟩ : ByteArray)) := (zaB BK172.out 1).trans rfl
            have hcz15_2 : w8.cell? ⟨gb172, 2, none⟩ = some (.slice none 0 0) := (zaB BK172.out 2).trans rfl
            have hcz15_3 : w8.cell? ⟨gb172, 3, none⟩ = some (.slice none 0 0) := (zaB BK172.out 3).trans rfl
            have hfz15_0 := zau BK172.out 0
            have hfz15_1 := zau BK172.out 1
            have hfz15_2 := zau BK172.out 2
            have hfz15_3 := zau BK172.out 3
            go_wp2
            go_meet
            case rel => exact ⟨_, (true), (by first | rfl | (simp; done) | (simp [*]; done)), H', ⟨by have := HK1.out; have := HJ1.out; first | omega | exact Nat.le_refl _⟩, ⟨by (with_reducible repeat (first | refine zaD ?_ _ | refine zaI ?_ | refine zaE ?_ _)); refine zaK (cs := #[.string ((zai l0 x3_1).f0), .string ((zai l0 x3_1).f1), .slice A171_2 ((zai l0 x3_1).f2).length c171_2, .slice none 0 0]) ?_ 3 _ rfl; (with_reducible repeat (first | refine zaD ?_ _ | refine zaI ?_ | refine zaE ?_ _)); refine zaK (cs := #[.string ((zai l0 x3_1).f0), .string ((zai l0 x3_1).f1), .slice none 0 0, .slice none 0 0]) ?_ 2 _ rfl; (with_reducible repeat (first | refine zaD ?_ _ | refine zaI ?_ | refine zaE ?_ _)); refine zaK (cs := #[.string ((zai l0 x3_1).f0), .string (⟨#[]⟩ : ByteArray), .slice none 0 0, .slice none 0 0]) ?_ 1 _ rfl; (with_reducible repeat (first | refine zaD ?_ _ | refine zaI ?_ | refine zaE ?_ _)); refine zaK (cs := #[.string (⟨#[]⟩ : ByteArray), .string (⟨#[]⟩ : ByteArray), .slice none 0 0, .slice none 0 0]) ?_ 0 _ rfl; (with_reducible repeat (first | refine zaD ?_ _ | refine zaI ?_ | refine zaE ?_ _)); exact BK172.out⟩, ⟨by repeat (first | (with_reducible first | exact HB.out | apply zad | apply zac | apply zae | refine zav ?_ GE172.out) | exact HB.out)⟩⟩
           ·
            rw [if_neg c14] at H
            have c14b0 : decide (7 < (((zai l0 x3_1).f2).length : Int)) = false := decide_eq_false c14
            have c14b1 : decide (7 < ((zai l0 x3_1).f2).length) = false := decide_eq_false o9
            clear c14
            by_cases c16 : (((zai l0 x3_1).f3).length : Int) > 7
            ·
             rw [if_pos c16] at H
             have c16b0 : decide (7 < (((zai l0 x3_1).f3).length : Int)) = true := decide_eq_true c16
             have c16b1 : decide (7 < ((zai l0 x3_1).f3).length) = true := decide_eq_true o9
             clear c16
             have H' := zaa.mk H
             clear H
             have hcz17_0 : w8.cell? ⟨gb172, 0, none⟩ = some (.string (⟨#[]⟩ : ByteArray)) := (zaB BK172.out 0).trans rfl
             have hcz17_1 : w8.cell? ⟨gb172, 1, none⟩ = some (.string (⟨#[]⟩ : ByteArray)) := (zaB BK172.out 1).trans rfl
             have hcz17_2 : w8.cell? ⟨gb172, 2, none⟩ = some (.slice none 0 0) := (zaB BK172.out 2).trans rfl
             have hcz17_3 : w8.cell? ⟨gb172, 3, none⟩ = some (.slice none 0 0) := (zaB BK172.out 3).trans rfl
             have hfz17_0 := zau BK172.out 0
             have hfz17_1 := zau BK172.out 1
             have hfz17_2 := zau BK172.out 2
             have hfz17_3 := zau BK172.out 3
             go_wp2
             go_meet
             case rel => exact ⟨_, (true), (by first | rfl | (simp; done) | (simp [*]; done)), H', ⟨by have := HK1.out; have := HJ1.out; first | omega | exact Nat.le_refl _⟩, ⟨by (with_reducible repeat (first | refine zaD ?_ _ | refine zaI ?_ | refine zaE ?_ _)); refine zaK (cs := #[.string ((zai l0 x3_1).f0), .string ((zai l0 x3_1).f1), .slice A171_2 ((zai l0 x3_1).f2).length c171_2, .slice none 0 0]) ?_ 3 _ rfl; (with_reducible repeat (first | refine zaD ?_ _ | refine zaI ?_ | refine zaE ?_ _)); refine zaK (cs := #[.string ((zai l0 x3_1).f0), .string ((zai l0 x3_1).f1), .slice none 0 0, .slice none 0 0]) ?_ 2 _ rfl; (with_reducible repeat (first | refine zaD ?_ _ | refine zaI ?_ | refine zaE ?_ _)); refine zaK (cs := #[.string ((zai l0 x3_1).f0), .string (⟨#[]⟩ : ByteArray), .slice none 0 0, .slice none 0 0]) ?_ 1 _ rfl; (with_reducible repeat (first | refine zaD ?_ _ | refine zaI ?_ | refine zaE ?_ _)); refine zaK (cs := #[.string (⟨#[]⟩ : ByteArray), .string (⟨#[]⟩ : ByteArray), .slice none 0 0, .slice none 0 0]) ?_ 0 _ rfl; (with_reducible repeat (first | refine zaD ?_ _ | refine zaI ?_ | refine zaE ?_ _)); exact BK172.out⟩, ⟨by repeat (first | (with_reducible first | exact HB.out | apply zad | apply zac | apply zae | refine zav ?_ GE172.out) | exact HB.out)⟩⟩
            ·
             rw [if_neg c16] at H
             have c16b0 : decide (7 < (((zai l0 x3_1).f3).length : Int)) = false := decide_eq_false c16
             have c16b1 : decide (7 < ((zai l0 x3_1).f3).length) = false := decide_eq_false o9
             clear c16
             replace H := Option.bind_eq_some_iff.mp H
             obtain ⟨t173, A180, H⟩ := H
             replace H : (zaf.j2 kj1 l0 x3_1 t173 ((zai l0 x3_1).f0) ((zai l0 x3_1).f1) ((zai l0 x3_1).f2) ((zai l0 x3_1).f3)) = some r := H
             have A18 := zaa.mk A180
             clear A180
             have H' := zaa.mk H
             clear H
             have hcz19_0 : w8.cell? ⟨gb172, 0, none⟩ = some (.string (⟨#[]⟩ : ByteArray)) := (zaB BK172.out 0).trans rfl
             have hcz19_1 : w8.cell? ⟨gb172, 1, none⟩ = some (.string (⟨#[]⟩ : ByteArray)) := (zaB BK172.out 1).trans rfl
             have hcz19_2 : w8.cell? ⟨gb172, 2, none⟩ = some (.slice none 0 0) := (zaB BK172.out 2).trans rfl
             have hcz19_3 : w8.cell? ⟨gb172, 3, none⟩ = some (.slice none 0 0) := (zaB BK172.out 3).trans rfl
             have hfz19_0 := zau BK172.out 0
             have hfz19_1 := zau BK172.out 1
             have hfz19_2 := zau BK172.out 2
             have hfz19_3 := zau BK172.out 3
             go_wp2_with (first | (go_at_call 26; (with_reducible refine (zam.calls kj1 _ _ ((zai l0 x3_1).f2) t173 _ ?side1 ?side2 A18.out).mono ?_); (case side1 => exact Kd.zaF HR171_2.out (by repeat (first | (with_reducible first | exact HB.out | apply zad | apply zac | apply zae | refine zav ?_ GE172.out) | exact HB.out))); (case side2 => exact HC171_2.out); rintro e w' ⟨rfl, ⟨nd, rfl⟩⟩))
             go_meet
             case rel => exact ⟨_, (t173), (by first | rfl | (simp; done) | (simp [*]; done)), H', ⟨by have := HK1.out; have := HJ1.out; first | omega | exact Nat.le_refl _⟩, ⟨by (with_reducible repeat (first | refine zaD ?_ _ | refine zaI ?_ | refine zaE ?_ _)); refine zaK (cs := #[.string ((zai l0 x3_1).f0), .string ((zai l0 x3_1).f1), .slice A171_2 ((zai l0 x3_1).f2).length c171_2, .slice none 0 0]) ?_ 3 _ rfl; (with_reducible repeat (first | refine zaD ?_ _ | refine zaI ?_ | refine zaE ?_ _)); refine zaK (cs := #[.string ((zai l0 x3_1).f0), .string ((zai l0 x3_1).f1), .slice none 0 0, .slice none 0 0]) ?_ 2 _ rfl; (with_reducible repeat (first | refine zaD ?_ _ | refine zaI ?_ | refine zaE ?_ _)); refine zaK (cs := #[.string ((zai l0 x3_1).f0), .string (⟨#[]⟩ : ByteArray), .slice none 0 0, .slice none 0 0]) ?_ 1 _ rfl; (with_reducible repeat (first | refine zaD ?_ _ | refine zaI ?_ | refine zaE ?_ _)); refine zaK (cs := #[.string (⟨#[]⟩ : ByteArray), .string (⟨#[]⟩ : ByteArray), .slice none 0 0, .slice none 0 0]) ?_ 0 _ rfl; (with_reducible repeat (first | refine zaD ?_ _ | refine zaI ?_ | refine zaE ?_ _)); exact BK172.out⟩, ⟨by repeat (first | (with_reducible first | exact HB.out | apply zad | apply zac | apply zae | refine zav ?_ GE172.out) | exact HB.out)⟩⟩
        case rest =>
         clear HC7
         try clear c1
         try clear p1
         try clear q1
         try clear hx1
         try clear p2
         try clear c3
         try clear c3b0
         try clear c4
         try clear c5
         try clear c5b0
         try clear c6
         try clear c6b0
         try clear c10
         try clear c10b0
         try clear c10b1
         try clear c12
         try clear c12b0
         try clear c12b1
         try clear c14
         try clear c14b0
         try clear c14b1
         try clear c16
         try clear c16b0
         try clear c16b1
         try clear c17
         try clear p17
         try clear q17
         try clear hx17
         try clear hcz11_0
         try clear hcz11_1
         try clear hcz11_2
         try clear hcz11_3
         try clear hcz13_0
         try clear hcz13_1
         try clear hcz13_2
         try clear hcz13_3
         try clear hcz15_0
         try clear hcz15_1
         try clear hcz15_2
         try clear hcz15_3
         try clear hcz17_0
         try clear hcz17_1
         try clear hcz17_2
         try clear hcz17_3
         try clear hcz19_0
         try clear hcz19_1
         try clear hcz19_2
         try clear hcz19_3
         try clear hcz9_0
         try clear hcz9_1
         try clear hcz9_2
         try clear hcz9_3
         try clear hfz11_0
         try clear hfz11_1
         try clear hfz11_2
         try clear hfz11_3
         try clear hfz13_0
         try clear hfz13_1
         try clear hfz13_2
         try clear hfz13_3
         try clear hfz15_0
         try clear hfz15_1
         try clear hfz15_2
         try clear hfz15_3
         try clear hfz17_0
         try clear hfz17_1
         try clear hfz17_2
         try clear hfz17_3
         try clear hfz19_0
         try clear hfz19_1
         try clear hfz19_2
         try clear hfz19_3
         try clear hfz9_0
         try clear hfz9_1
         try clear hfz9_2
         try clear hfz9_3
         try clear hx171_0
         try clear hx171_1
         try clear hx171_2
         try clear hx171_3
         try clear p171
         try clear p2
         try clear q171
         obtain ⟨kq, x47_6, rfl, HA, HJ6, BK172, HB⟩ := hcut
         cases kq with
         | zero => exact absurd HA.out (by simp [zaf.j2])
         | succ kj6 =>
          have H := HA.out
          clear HA
          simp only [zaf.j2] at H
          by_cases c20 : x47_6 = true
          ·
           subst c20
           have H1 : (some true) = some r := by rw [if_pos rfl] at H; exact H
           clear H
           have H := H1
           clear H1
           obtain rfl := Option.some.inj H
           go_wp2
           go_ret
           exact ⟨by first | rfl | (simp [zaS, zaT] <;> rfl) | (simp [*, zaS, zaT] <;> rfl), by repeat (first | (with_reducible first | exact HB.out | apply zad | apply zac | apply zae | refine zav ?_ GE172.out) | exact HB.out)⟩
          ·
           replace c20 := Bool.eq_false_iff.mpr c20
           subst c20
           have H1 : (zaf.l1 kj6 l0 x3_1 0 ((zai l0 x3_1).f0) ((zai l0 x3_1).f1) ((zai l0 x3_1).f2) ((zai l0 x3_1).f3)) = some r := by rw [if_neg (show ¬ (false = true) by decide)] at H; exact H
           clear H
           have H := H1
           clear H1
           have H' := zaa.mk H
           clear H
           go_wp2
           go_loopg [5] kj6 (fun kq v5 w' => ∃ (x5_4 : Int), v5 = .int .i64 x5_4 ∧ zaa (zaf.l1 kq l0 x3_1 x5_4 ((zai l0 x3_1).f0) ((zai l0 x3_1).f1) ((zai l0 x3_1).f2) ((zai l0 x3_1).f3) = some r) ∧ zaa (kq ≤ kj6) ∧ zaa (w'.heap[gb172]? = some (.cells #[.string ((zai l0 x3_1).f0), .string ((zai l0 x3_1).f1), (.slice A171_2 ((zai l0 x3_1).f2).length c171_2), (.slice A171_3 ((zai l0 x3_1).f3).length c171_3)] 44 (0, 0))) ∧ zaa (Below w.heap.size w w'))
           case atStart => exact ⟨(0), (by first | rfl | (simp; done) | (simp [*]; done)), H', ⟨Nat.le_refl _⟩, ⟨by (with_reducible repeat (first | refine zaD ?_ _ | refine zaI ?_ | refine zaE ?_ _)); exact BK172.out⟩, ⟨by repeat (first | (with_reducible first | exact HB.out | apply zad | apply zac | apply zae | refine zav ?_ GE172.out) | exact HB.out)⟩⟩
           case round =>
            clear H'
            try clear c1
            try clear p1
            try clear q1
            try clear hx1
            try clear c2
            try clear p2
            try clear c3
            try clear c3b0
            try clear c4
            try clear c5
            try clear c5b0
            try clear c6
            try clear c6b0
            try clear c10
            try clear c10b0
            try clear c10b1
            try clear c12
            try clear c12b0
            try clear c12b1
            try clear c14
            try clear c14b0
            try clear c14b1
            try clear c16
            try clear c16b0
            try clear c16b1
            try clear c17
            try clear p17
            try clear q17
            try clear hx17
            try clear c20
            try clear hcz11_0
            try clear hcz11_1
            try clear hcz11_2
            try clear hcz11_3
            try clear hcz13_0
            try clear hcz13_1
            try clear hcz13_2
            try clear hcz13_3
            try clear hcz15_0
            try clear hcz15_1
            try clear hcz15_2
            try clear hcz15_3
            try clear hcz17_0
            try clear hcz17_1
            try clear hcz17_2
            try clear hcz17_3
            try clear hcz19_0
            try clear hcz19_1
            try clear hcz19_2
            try clear hcz19_3
            try clear hcz9_0
            try clear hcz9_1
            try clear hcz9_2
            try clear hcz9_3
            try clear hfz11_0
            try clear hfz11_1
            try clear hfz11_2
            try clear hfz11_3
            try clear hfz13_0
            try clear hfz13_1
            try clear hfz13_2
            try clear hfz13_3
            try clear hfz15_0
            try clear hfz15_1
            try clear hfz15_2
            try clear hfz15_3
            try clear hfz17_0
            try clear hfz17_1
            try clear hfz17_2
            try clear hfz17_3
            try clear hfz19_0
            try clear hfz19_1
            try clear hfz19_2
            try clear hfz19_3
            try clear hfz9_0
            try clear hfz9_1
            try clear hfz9_2
            try clear hfz9_3
            try clear hx171_0
            try clear hx171_1
            try clear hx171_2
            try clear hx171_3
            try clear p1
            try clear p17
            try clear p171
            try clear p2
            try clear q1
            try clear q17
            try clear q171
            obtain ⟨x5_4, rfl, HA, HK4, BK172, HB⟩ := hrel
            cases gk with
            | zero => exact absurd HA.out (by simp [zaf.l1])
            | succ k4 =>
             have H := HA.out
             clear HA
             simp only [zaf.l1] at H
             by_cases c21 : x5_4 < (((zai l0 x3_1).f3).length : Int)
             ·
              rw [if_pos c21] at H
              have c21b0 : decide (x5_4 < (((zai l0 x3_1).f3).length : Int)) = true := decide_eq_true c21
              clear c21
              by_cases c22 : 0 ≤ x5_4
              ·
               rw [if_pos c22] at H
               have c22b0 : decide (0 ≤ x5_4) = true := decide_eq_true c22
               clear c22
               by_cases c23 : (((zaR ((zai l0 x3_1).f3) x5_4).f0).size : Int) > 30
               ·
                rw [if_pos c23] at H
                have c23b0 : decide (30 < (((zaR ((zai l0 x3_1).f3) x5_4).f0).size : Int)) = true := decide_eq_true c23
                have c23b1 : decide (30 < ((zaR ((zai l0 x3_1).f3) x5_4).f0).size) = true := decide_eq_true o9
                clear c23
                obtain rfl := Option.some.inj H
                have hcz24_0 : wr.cell? ⟨gb172, 0, none⟩ = some (.string ((zai l0 x3_1).f0)) := (zaB BK172.out 0).trans rfl
                have hcz24_1 : wr.cell? ⟨gb172, 1, none⟩ = some (.string ((zai l0 x3_1).f1)) := (zaB BK172.out 1).trans rfl
                have hcz24_2 : wr.cell? ⟨gb172, 2, none⟩ = some (.slice A171_2 ((zai l0 x3_1).f2).length c171_2) := (zaB BK172.out 2).trans rfl
                have hcz24_3 : wr.cell? ⟨gb172, 3, none⟩ = some (.slice A171_3 ((zai l0 x3_1).f3).length c171_3) := (zaB BK172.out 3).trans rfl
                have hfz24_0 := zau BK172.out 0
                have hfz24_1 := zau BK172.out 1
                have hfz24_2 := zau BK172.out 2
                have hfz24_3 := zau BK172.out 3
                have p174 : 0 ≤ (x5_4 : Int) := of_decide_eq_true (by first | (with_reducible assumption) | assumption)
                have q174 : x5_4 < (((zai l0 x3_1).f3).length : Int) := of_decide_eq_true (by first | (with_reducible assumption) | assumption)
                obtain ⟨ad174, A174_1, c174_1, e174, hx174_0, hx174_1, hx174_2, hl174_1, hi174_1⟩ := zcO HR171_3.out x5_4 p174 q174
                cases e174
                replace hx174_0 := (HB.out.cell (World.block_lt_of_cell? w _ hx174_0)).trans hx174_0
                replace hx174_1 := (HB.out.cell (World.block_lt_of_cell? w _ hx174_1)).trans hx174_1
                replace hx174_2 := (HB.out.cell (World.block_lt_of_cell? w _ hx174_2)).trans hx174_2
                have HR174_1 := zaa.mk hi174_1
                have HC174_1 := zaa.mk hl174_1
                clear hi174_1 hl174_1
                replace p174 := eq_true p174
                replace q174 := eq_true q174
                go_wp2_with (first | ((with_reducible refine zbp (N := 6) rfl ?_); (try (refine zbS (by rfl) ?_; dsimp only)); refine zbO ?hg (N := 6) ?hd (cs := #[.string (⟨#[]⟩ : ByteArray), .slice none 0 0, .string (⟨#[]⟩ : ByteArray)]) (t := 57) ?hr ?_; (case hd => rfl); (case hg => rfl); (case hr => first | (go_simp; done) | (go_simp; rfl)); intro gb175 hg w25 hbox hb; have n0_ := zaa.mk (zci (g := gb172) (o := .cells #[.string ((zai l0 x3_1).f0), .string ((zai l0 x3_1).f1), .slice A171_2 ((zai l0 x3_1).f2).length c171_2, .slice (some ad174) ((zai l0 x3_1).f3).length c171_3] 44 (0, 0)) (by (with_reducible repeat (first | refine zaD ?_ _ | refine zaI ?_ | refine zaE ?_ _)); exact BK172.out) hb); have n1_ := zaa.mk (zaq (by repeat (first | (with_reducible first | exact HB.out | apply zad | apply zac | apply zae | refine zav ?_ GE172.out) | exact HB.out)) hb); have n2_ := zaa.mk (hbox); have n3_ := zaa.mk ((by rw [hg]; exact (zaL (by repeat (first | (with_reducible first | exact HB.out | apply zad | apply zac | apply zae | refine zav ?_ GE172.out) | exact HB.out))) : w.heap.size ≤ gb175)); have n4_ := zaa.mk ((by rw [hg]; exact (zaL (by repeat (first | (with_reducible first | exact HB.out | apply zad | apply zac | apply zae | refine zav ?_ GE172.out) | exact HB.out))) : w.heap.size ≤ gb175)); have n5_ := zaa.mk ((by rw [hg]; exact Nat.ne_of_lt (zct (g := gb172) (o := .cells #[.string ((zai l0 x3_1).f0), .string ((zai l0 x3_1).f1), .slice A171_2 ((zai l0 x3_1).f2).length c171_2, .slice (some ad174) ((zai l0 x3_1).f3).length c171_3] 44 (0, 0)) (by (with_reducible repeat (first | refine zaD ?_ _ | refine zaI ?_ | refine zaE ?_ _)); exact BK172.out)) : gb172 ≠ gb175)); have n6_ := zaa.mk ((by rw [hg]; exact Nat.ne_of_gt (zct (g := gb172) (o := .cells #[.string ((zai l0 x3_1).f0), .string ((zai l0 x3_1).f1), .slice A171_2 ((zai l0 x3_1).f2).length c171_2, .slice (some ad174) ((zai l0 x3_1).f3).length c171_3] 44 (0, 0)) (by (with_reducible repeat (first | refine zaD ?_ _ | refine zaI ?_ | refine zaE ?_ _)); exact BK172.out)) : gb175 ≠ gb172)); clear BK172; clear HB; have BK172 := n0_; have HB := n1_; have BK175 := n2_; have GW175 := n3_; have GE175 := n4_; have NB172_175 := n5_; have NB175_172 := n6_; clear n0_ n1_ n2_ n3_ n4_ n5_ n6_; clear hb hbox hg; have hnb26 := NB175_172.out; have hnc26 := NB172_175.out; have hcz27_0 : w25.cell? ⟨gb175, 0, none⟩ = some (.string (⟨#[]⟩ : ByteArray)) := (zaB BK175.out 0).trans rfl; have hcz27_1 : w25.cell? ⟨gb175, 1, none⟩ = some (.slice none 0 0) := (zaB BK175.out 1).trans rfl; have hcz27_2 : w25.cell? ⟨gb175, 2, none⟩ = some (.string (⟨#[]⟩ : ByteArray)) := (zaB BK175.out 2).trans rfl; have hfz27_0 := zau BK175.out 0; have hfz27_1 := zau BK175.out 1; have hfz27_2 := zau BK175.out 2))
                go_ret
                exact ⟨by first | rfl | (simp [zaS, zaT] <;> rfl) | (simp [*, zaS, zaT] <;> rfl), by repeat (first | (with_reducible first | exact HB.out | apply zad | apply zac | apply zae | refine zav ?_ GE172.out | refine zav ?_ GE175.out) | exact HB.out)⟩
               ·
                rw [if_neg c23] at H
                have c23b0 : decide (30 < (((zaR ((zai l0 x3_1).f3) x5_4).f0).size : Int)) = false := decide_eq_false c23
                have c23b1 : decide (30 < ((zaR ((zai l0 x3_1).f3) x5_4).f0).size) = false := decide_eq_false o9
                clear c23
                by_cases c28 : (((zaR ((zai l0 x3_1).f3) x5_4).f2).size : Int) > 30
                ·
                 rw [if_pos c28] at H
                 have c28b0 : decide (30 < (((zaR ((zai l0 x3_1).f3) x5_4).f2).size : Int)) = true := decide_eq_true c28
                 have c28b1 : decide (30 < ((zaR ((zai l0 x3_1).f3) x5_4).f2).size) = true := decide_eq_true o9
                 clear c28
                 obtain rfl := Option.some.inj H
                 have hcz29_0 : wr.cell? ⟨gb172, 0, none⟩ = some (.string ((zai l0 x3_1).f0)) := (zaB BK172.out 0).trans rfl
                 have hcz29_1 : wr.cell? ⟨gb172, 1, none⟩ = some (.string ((zai l0 x3_1).f1)) := (zaB BK172.out 1).trans rfl
                 have hcz29_2 : wr.cell? ⟨gb172, 2, none⟩ = some (.slice A171_2 ((zai l0 x3_1).f2).length c171_2) := (zaB BK172.out 2).trans rfl
                 have hcz29_3 : wr.cell? ⟨gb172, 3, none⟩ = some (.slice A171_3 ((zai l0 x3_1).f3).length c171_3) := (zaB BK172.out 3).trans rfl
                 have hfz29_0 := zau BK172.out 0
                 have hfz29_1 := zau BK172.out 1
                 have hfz29_2 := zau BK172.out 2
                 have hfz29_3 := zau BK172.out 3
                 have p174 : 0 ≤ (x5_4 : Int) := of_decide_eq_true (by first | (with_reducible assumption) | assumption)
                 have q174 : x5_4 < (((zai l0 x3_1).f3).length : Int) := of_decide_eq_true (by first | (with_reducible assumption) | assumption)
                 obtain ⟨ad174, A174_1, c174_1, e174, hx174_0, hx174_1, hx174_2, hl174_1, hi174_1⟩ := zcO HR171_3.out x5_4 p174 q174
                 cases e174
                 replace hx174_0 := (HB.out.cell (World.block_lt_of_cell? w _ hx174_0)).trans hx174_0
                 replace hx174_1 := (HB.out.cell (World.block_lt_of_cell? w _ hx174_1)).trans hx174_1
                 replace hx174_2 := (HB.out.cell (World.block_lt_of_cell? w _ hx174_2)).trans hx174_2
                 have HR174_1 := zaa.mk hi174_1
                 have HC174_1 := zaa.mk hl174_1
                 clear hi174_1 hl174_1
                 replace p174 := eq_true p174
                 replace q174 := eq_true q174
                 go_wp2_with (first | ((with_reducible refine zbp (N := 6) rfl ?_); (try (refine zbS (by rfl) ?_; dsimp only)); refine zbO ?hg (N := 6) ?hd (cs := #[.string (⟨#[]⟩ : ByteArray), .slice none 0 0, .string (⟨#[]⟩ : ByteArray)]) (t := 57) ?hr ?_; (case hd => rfl); (case hg => rfl); (case hr => first | (go_simp; done) | (go_simp; rfl)); intro gb175 hg w30 hbox hb; have n0_ := zaa.mk (zci (g := gb172) (o := .cells #[.string ((zai l0 x3_1).f0), .string ((zai l0 x3_1).f1), .slice A171_2 ((zai l0 x3_1).f2).length c171_2, .slice (some ad174) ((zai l0 x3_1).f3).length c171_3] 44 (0, 0)) (by (with_reducible repeat (first | refine zaD ?_ _ | refine zaI ?_ | refine zaE ?_ _)); exact BK172.out) hb); have n1_ := zaa.mk (zaq (by repeat (first | (with_reducible first | exact HB.out | apply zad | apply zac | apply zae | refine zav ?_ GE172.out) | exact HB.out)) hb); have n2_ := zaa.mk (hbox); have n3_ := zaa.mk ((by rw [hg]; exact (zaL (by repeat (first | (with_reducible first | exact HB.out | apply zad | apply zac | apply zae | refine zav ?_ GE172.out) | exact HB.out))) : w.heap.size ≤ gb175)); have n4_ := zaa.mk ((by rw [hg]; exact (zaL (by repeat (first | (with_reducible first | exact HB.out | apply zad | apply zac | apply zae | refine zav ?_ GE172.out) | exact HB.out))) : w.heap.size ≤ gb175)); have n5_ := zaa.mk ((by rw [hg]; exact Nat.ne_of_lt (zct (g := gb172) (o := .cells #[.string ((zai l0 x3_1).f0), .string ((zai l0 x3_1).f1), .slice A171_2 ((zai l0 x3_1).f2).length c171_2, .slice (some ad174) ((zai l0 x3_1).f3).length c171_3] 44 (0, 0)) (by (with_reducible repeat (first | refine zaD ?_ _ | refine zaI ?_ | refine zaE ?_ _)); exact BK172.out)) : gb172 ≠ gb175)); have n6_ := zaa.mk ((by rw [hg]; exact Nat.ne_of_gt (zct (g := gb172) (o := .cells #[.string ((zai l0 x3_1).f0), .string ((zai l0 x3_1).f1), .slice A171_2 ((zai l0 x3_1).f2).length c171_2, .slice (some ad174) ((zai l0 x3_1).f3).length c171_3] 44 (0, 0)) (by (with_reducible repeat (first | refine zaD ?_ _ | refine zaI ?_ | refine zaE ?_ _)); exact BK172.out)) : gb175 ≠ gb172)); clear BK172; clear HB; have BK172 := n0_; have HB := n1_; have BK175 := n2_; have GW175 := n3_; have GE175 := n4_; have NB172_175 := n5_; have NB175_172 := n6_; clear n0_ n1_ n2_ n3_ n4_ n5_ n6_; clear hb hbox hg; have hnb31 := NB175_172.out; have hnc31 := NB172_175.out; have hcz32_0 : w30.cell? ⟨gb175, 0, none⟩ = some (.string (⟨#[]⟩ : ByteArray)) := (zaB BK175.out 0).trans rfl; have hcz32_1 : w30.cell? ⟨gb175, 1, none⟩ = some (.slice none 0 0) := (zaB BK175.out 1).trans rfl; have hcz32_2 : w30.cell? ⟨gb175, 2, none⟩ = some (.string (⟨#[]⟩ : ByteArray)) := (zaB BK175.out 2).trans rfl; have hfz32_0 := zau BK175.out 0; have hfz32_1 := zau BK175.out 1; have hfz32_2 := zau BK175.out 2))
                 go_ret
                 exact ⟨by first | rfl | (simp [zaS, zaT] <;> rfl) | (simp [*, zaS, zaT] <;> rfl), by repeat (first | (with_reducible first | exact HB.out | apply zad | apply zac | apply zae | refine zav ?_ GE172.out | refine zav ?_ GE175.out) | exact HB.out)⟩
                ·
                 rw [if_neg c28] at H
                 have c28b0 : decide (30 < (((zaR ((zai l0 x3_1).f3) x5_4).f2).size : Int)) = false := decide_eq_false c28
                 have c28b1 : decide (30 < ((zaR ((zai l0 x3_1).f3) x5_4).f2).size) = false := decide_eq_false o9
                 clear c28
                 by_cases c33 : (((zaR ((zai l0 x3_1).f3) x5_4).f1).length : Int) > 10
                 ·
                  rw [if_pos c33] at H
                  have c33b0 : decide (10 < (((zaR ((zai l0 x3_1).f3) x5_4).f1).length : Int)) = true := decide_eq_true c33
                  have c33b1 : decide (10 < ((zaR ((zai l0 x3_1).f3) x5_4).f1).length) = true := decide_eq_true o9
                  clear c33
                  obtain rfl := Option.some.inj H
                  have hcz34_0 : wr.cell? ⟨gb172, 0, none⟩ = some (.string ((zai l0 x3_1).f0)) := (zaB BK172.out 0).trans rfl
                  have hcz34_1 : wr.cell? ⟨gb172, 1, none⟩ = some (.string ((zai l0 x3_1).f1)) := (zaB BK172.out 1).trans rfl
                  have hcz34_2 : wr.cell? ⟨gb172, 2, none⟩ = some (.slice A171_2 ((zai l0 x3_1).f2).length c171_2) := (zaB BK172.out 2).trans rfl
                  have hcz34_3 : wr.cell? ⟨gb172, 3, none⟩ = some (.slice A171_3 ((zai l0 x3_1).f3).length c171_3) := (zaB BK172.out 3).trans rfl
                  have hfz34_0 := zau BK172.out 0
                  have hfz34_1 := zau BK172.out 1
                  have hfz34_2 := zau BK172.out 2
                  have hfz34_3 := zau BK172.out 3
                  have p174 : 0 ≤ (x5_4 : Int) := of_decide_eq_true (by first | (with_reducible assumption) | assumption)
                  have q174 : x5_4 < (((zai l0 x3_1).f3).length : Int) := of_decide_eq_true (by first | (with_reducible assumption) | assumption)
                  obtain ⟨ad174, A174_1, c174_1, e174, hx174_0, hx174_1, hx174_2, hl174_1, hi174_1⟩ := zcO HR171_3.out x5_4 p174 q174
                  cases e174
                  replace hx174_0 := (HB.out.cell (World.block_lt_of_cell? w _ hx174_0)).trans hx174_0
                  replace hx174_1 := (HB.out.cell (World.block_lt_of_cell? w _ hx174_1)).trans hx174_1
                  replace hx174_2 := (HB.out.cell (World.block_lt_of_cell? w _ hx174_2)).trans hx174_2
                  have HR174_1 := zaa.mk hi174_1
                  have HC174_1 := zaa.mk hl174_1
                  clear hi174_1 hl174_1
                  replace p174 := eq_true p174
                  replace q174 := eq_true q174
                  go_wp2_with (first | ((with_reducible refine zbp (N := 6) rfl ?_); (try (refine zbS (by rfl) ?_; dsimp only)); refine zbO ?hg (N := 6) ?hd (cs := #[.string (⟨#[]⟩ : ByteArray), .slice none 0 0, .string (⟨#[]⟩ : ByteArray)]) (t := 57) ?hr ?_; (case hd => rfl); (case hg => rfl); (case hr => first | (go_simp; done) | (go_simp; rfl)); intro gb175 hg w35 hbox hb; have n0_ := zaa.mk (zci (g := gb172) (o := .cells #[.string ((zai l0 x3_1).f0), .string ((zai l0 x3_1).f1), .slice A171_2 ((zai l0 x3_1).f2).length c171_2, .slice (some ad174) ((zai l0 x3_1).f3).length c171_3] 44 (0, 0)) (by (with_reducible repeat (first | refine zaD ?_ _ | refine zaI ?_ | refine zaE ?_ _)); exact BK172.out) hb); have n1_ := zaa.mk (zaq (by repeat (first | (with_reducible first | exact HB.out | apply zad | apply zac | apply zae | refine zav ?_ GE172.out) | exact HB.out)) hb); have n2_ := zaa.mk (hbox); have n3_ := zaa.mk ((by rw [hg]; exact (zaL (by repeat (first | (with_reducible first | exact HB.out | apply zad | apply zac | apply zae | refine zav ?_ GE172.out) | exact HB.out))) : w.heap.size ≤ gb175)); have n4_ := zaa.mk ((by rw [hg]; exact (zaL (by repeat (first | (with_reducible first | exact HB.out | apply zad | apply zac | apply zae | refine zav ?_ GE172.out) | exact HB.out))) : w.heap.size ≤ gb175)); have n5_ := zaa.mk ((by rw [hg]; exact Nat.ne_of_lt (zct (g := gb172) (o := .cells #[.string ((zai l0 x3_1).f0), .string ((zai l0 x3_1).f1), .slice A171_2 ((zai l0 x3_1).f2).length c171_2, .slice (some ad174) ((zai l0 x3_1).f3).length c171_3] 44 (0, 0)) (by (with_reducible repeat (first | refine zaD ?_ _ | refine zaI ?_ | refine zaE ?_ _)); exact BK172.out)) : gb172 ≠ gb175)); have n6_ := zaa.mk ((by rw [hg]; exact Nat.ne_of_gt (zct (g := gb172) (o := .cells #[.string ((zai l0 x3_1).f0), .string ((zai l0 x3_1).f1), .slice A171_2 ((zai l0 x3_1).f2).length c171_2, .slice (some ad174) ((zai l0 x3_1).f3).length c171_3] 44 (0, 0)) (by (with_reducible repeat (first | refine zaD ?_ _ | refine zaI ?_ | refine zaE ?_ _)); exact BK172.out)) : gb175 ≠ gb172)); clear BK172; clear HB; have BK172 := n0_; have HB := n1_; have BK175 := n2_; have GW175 := n3_; have GE175 := n4_; have NB172_175 := n5_; have NB175_172 := n6_; clear n0_ n1_ n2_ n3_ n4_ n5_ n6_; clear hb hbox hg; have hnb36 := NB175_172.out; have hnc36 := NB172_175.out; have hcz37_0 : w35.cell? ⟨gb175, 0, none⟩ = some (.string (⟨#[]⟩ : ByteArray)) := (zaB BK175.out 0).trans rfl; have hcz37_1 : w35.cell? ⟨gb175, 1, none⟩ = some (.slice none 0 0) := (zaB BK175.out 1).trans rfl; have hcz37_2 : w35.cell? ⟨gb175, 2, none⟩ = some (.string (⟨#[]⟩ : ByteArray)) := (zaB BK175.out 2).trans rfl; have hfz37_0 := zau BK175.out 0; have hfz37_1 := zau BK175.out 1; have hfz37_2 := zau BK175.out 2))
                  go_ret
                  exact ⟨by first | rfl | (simp [zaS, zaT] <;> rfl) | (simp [*, zaS, zaT] <;> rfl), by repeat (first | (with_reducible first | exact HB.out | apply zad | apply zac | apply zae | refine zav ?_ GE172.out | refine zav ?_ GE175.out) | exact HB.out)⟩
                 ·
                  rw [if_neg c33] at H
                  have c33b0 : decide (10 < (((zaR ((zai l0 x3_1).f3) x5_4).f1).length : Int)) = false := decide_eq_false c33
                  have c33b1 : decide (10 < ((zaR ((zai l0 x3_1).f3) x5_4).f1).length) = false := decide_eq_false o9
                  clear c33
                  replace H := Option.bind_eq_some_iff.mp H
                  obtain ⟨t176, A380, H⟩ := H
                  replace H : (if t176 = true then (some true) else (zaf.l1 k4 l0 x3_1 (wrap64 (x5_4 + 1)) ((zai l0 x3_1).f0) ((zai l0 x3_1).f1) ((zai l0 x3_1).f2) ((zai l0 x3_1).f3))) = some r := H
                  have A38 := zaa.mk A380
                  clear A380
                  by_cases c39 : t176 = true
                  ·
                   subst c39
                   have H1 : (some true) = some r := by rw [if_pos rfl] at H; exact H
                   clear H
                   have H := H1
                   clear H1
                   obtain rfl := Option.some.inj H
                   have hcz40_0 : wr.cell? ⟨gb172, 0, none⟩ = some (.string ((zai l0 x3_1).f0)) := (zaB BK172.out 0).trans rfl
                   have hcz40_1 : wr.cell? ⟨gb172, 1, none⟩ = some (.string ((zai l0 x3_1).f1)) := (zaB BK172.out 1).trans rfl
                   have hcz40_2 : wr.cell? ⟨gb172, 2, none⟩ = some (.slice A171_2 ((zai l0 x3_1).f2).length c171_2) := (zaB BK172.out 2).trans rfl
                   have hcz40_3 : wr.cell? ⟨gb172, 3, none⟩ = some (.slice A171_3 ((zai l0 x3_1).f3).length c171_3) := (zaB BK172.out 3).trans rfl
                   have hfz40_0 := zau BK172.out 0
                   have hfz40_1 := zau BK172.out 1
                   have hfz40_2 := zau BK172.out 2
                   have hfz40_3 := zau BK172.out 3
                   have p174 : 0 ≤ (x5_4 : Int) := of_decide_eq_true (by first | (with_reducible assumption) | assumption)
                   have q174 : x5_4 < (((zai l0 x3_1).f3).length : Int) := of_decide_eq_true (by first | (with_reducible assumption) | assumption)
                   obtain ⟨ad174, A174_1, c174_1, e174, hx174_0, hx174_1, hx174_2, hl174_1, hi174_1⟩ := zcO HR171_3.out x5_4 p174 q174
                   cases e174
                   replace hx174_0 := (HB.out.cell (World.block_lt_of_cell? w _ hx174_0)).trans hx174_0
                   replace hx174_1 := (HB.out.cell (World.block_lt_of_cell? w _ hx174_1)).trans hx174_1
                   replace hx174_2 := (HB.out.cell (World.block_lt_of_cell? w _ hx174_2)).trans hx174_2
                   have HR174_1 := zaa.mk hi174_1
                   have HC174_1 := zaa.mk hl174_1
                   clear hi174_1 hl174_1
                   replace p174 := eq_true p174
                   replace q174 := eq_true q174
                   go_wp2_with (first | ((with_reducible refine zbp (N := 6) rfl ?_); (try (refine zbS (by rfl) ?_; dsimp only)); refine zbO ?hg (N := 6) ?hd (cs := #[.string (⟨#[]⟩ : ByteArray), .slice none 0 0, .string (⟨#[]⟩ : ByteArray)]) (t := 57) ?hr ?_; (case hd => rfl); (case hg => rfl); (case hr => first | (go_simp; done) | (go_simp; rfl)); intro gb175 hg w41 hbox hb; have n0_ := zaa.mk (zci (g := gb172) (o := .cells #[.string ((zai l0 x3_1).f0), .string ((zai l0 x3_1).f1), .slice A171_2 ((zai l0 x3_1).f2).length c171_2, .slice (some ad174) ((zai l0 x3_1).f3).length c171_3] 44 (0, 0)) (by (with_reducible repeat (first | refine zaD ?_ _ | refine zaI ?_ | refine zaE ?_ _)); exact BK172.out) hb); have n1_ := zaa.mk (zaq (by repeat (first | (with_reducible first | exact HB.out | apply zad | apply zac | apply zae | refine zav ?_ GE172.out) | exact HB.out)) hb); have n2_ := zaa.mk (hbox); have n3_ := zaa.mk ((by rw [hg]; exact (zaL (by repeat (first | (with_reducible first | exact HB.out | apply zad | apply zac | apply zae | refine zav ?_ GE172.out) | exact HB.out))) : w.heap.size ≤ gb175)); have n4_ := zaa.mk ((by rw [hg]; exact (zaL (by repeat (first | (with_reducible first | exact HB.out | apply zad | apply zac | apply zae | refine zav ?_ GE172.out) | exact HB.out))) : w.heap.size ≤ gb175)); have n5_ := zaa.mk ((by rw [hg]; exact Nat.ne_of_lt (zct (g := gb172) (o := .cells #[.string ((zai l0 x3_1).f0), .string ((zai l0 x3_1).f1), .slice A171_2 ((zai l0 x3_1).f2).length c171_2, .slice (some ad174) ((zai l0 x3_1).f3).length c171_3] 44 (0, 0)) (by (with_reducible repeat (first | refine zaD ?_ _ | refine zaI ?_ | refine zaE ?_ _)); exact BK172.out)) : gb172 ≠ gb175)); have n6_ := zaa.mk ((by rw [hg]; exact Nat.ne_of_gt (zct (g := gb172) (o := .cells #[.string ((zai l0 x3_1).f0), .string ((zai l0 x3_1).f1), .slice A171_2 ((zai l0 x3_1).f2).length c171_2, .slice (some ad174) ((zai l0 x3_1).f3).length c171_3] 44 (0, 0)) (by (with_reducible repeat (first | refine zaD ?_ _ | refine zaI ?_ | refine zaE ?_ _)); exact BK172.out)) : gb175 ≠ gb172)); clear BK172; clear HB; have BK172 := n0_; have HB := n1_; have BK175 := n2_; have GW175 := n3_; have GE175 := n4_; have NB172_175 := n5_; have NB175_172 := n6_; clear n0_ n1_ n2_ n3_ n4_ n5_ n6_; clear hb hbox hg; have hnb42 := NB175_172.out; have hnc42 := NB172_175.out; have hcz43_0 : w41.cell? ⟨gb175, 0, none⟩ = some (.string (⟨#[]⟩ : ByteArray)) := (zaB BK175.out 0).trans rfl; have hcz43_1 : w41.cell? ⟨gb175, 1, none⟩ = some (.slice none 0 0) := (zaB BK175.out 1).trans rfl; have hcz43_2 : w41.cell? ⟨gb175, 2, none⟩ = some (.string (⟨#[]⟩ : ByteArray)) := (zaB BK175.out 2).trans rfl; have hfz43_0 := zau BK175.out 0; have hfz43_1 := zau BK175.out 1; have hfz43_2 := zau BK175.out 2) | (go_at_call 26; (with_reducible refine (zam.calls k4 _ _ ((zaR ((zai l0 x3_1).f3) x5_4).f1) true _ ?side1 ?side2 A38.out).mono ?_); (case side1 => exact Kd.zaF HR174_1.out (by repeat (first | (with_reducible first | exact HB.out | apply zad | apply zac | apply zae | refine zav ?_ GE172.out | refine zav ?_ GE175.out) | exact HB.out))); (case side2 => exact HC174_1.out); rintro e w' ⟨rfl, ⟨nd, rfl⟩⟩))
                   go_ret
                   exact ⟨by first | rfl | (simp [zaS, zaT] <;> rfl) | (simp [*, zaS, zaT] <;> rfl), by repeat (first | (with_reducible first | exact HB.out | apply zad | apply zac | apply zae | refine zav ?_ GE172.out | refine zav ?_ GE175.out) | exact HB.out)⟩
                  ·
                   replace c39 := Bool.eq_false_iff.mpr c39
                   subst c39
                   have H1 : (zaf.l1 k4 l0 x3_1 (wrap64 (x5_4 + 1)) ((zai l0 x3_1).f0) ((zai l0 x3_1).f1) ((zai l0 x3_1).f2) ((zai l0 x3_1).f3)) = some r := by rw [if_neg (show ¬ (false = true) by decide)] at H; exact H
                   clear H
                   have H := H1
                   clear H1
                   have H' := zaa.mk H
                   clear H
                   have hcz44_0 : wr.cell? ⟨gb172, 0, none⟩ = some (.string ((zai l0 x3_1).f0)) := (zaB BK172.out 0).trans rfl
                   have hcz44_1 : wr.cell? ⟨gb172, 1, none⟩ = some (.string ((zai l0 x3_1).f1)) := (zaB BK172.out 1).trans rfl
                   have hcz44_2 : wr.cell? ⟨gb172, 2, none⟩ = some (.slice A171_2 ((zai l0 x3_1).f2).length c171_2) := (zaB BK172.out 2).trans rfl
                   have hcz44_3 : wr.cell? ⟨gb172, 3, none⟩ = some (.slice A171_3 ((zai l0 x3_1).f3).length c171_3) := (zaB BK172.out 3).trans rfl
                   have hfz44_0 := zau BK172.out 0
                   have hfz44_1 := zau BK172.out 1
                   have hfz44_2 := zau BK172.out 2
                   have hfz44_3 := zau BK172.out 3
                   have p174 : 0 ≤ (x5_4 : Int) := of_decide_eq_true (by first | (with_reducible assumption) | assumption)
                   have q174 : x5_4 < (((zai l0 x3_1).f3).length : Int) := of_decide_eq_true (by first | (with_reducible assumption) | assumption)
                   obtain ⟨ad174, A174_1, c174_1, e174, hx174_0, hx174_1, hx174_2, hl174_1, hi174_1⟩ := zcO HR171_3.out x5_4 p174 q174
                   cases e174
                   replace hx174_0 := (HB.out.cell (World.block_lt_of_cell? w _ hx174_0)).trans hx174_0
                   replace hx174_1 := (HB.out.cell (World.block_lt_of_cell? w _ hx174_1)).trans hx174_1
                   replace hx174_2 := (HB.out.cell (World.block_lt_of_cell? w _ hx174_2)).trans hx174_2
                   have HR174_1 := zaa.mk hi174_1
                   have HC174_1 := zaa.mk hl174_1
                   clear hi174_1 hl174_1
                   replace p174 := eq_true p174
                   replace q174 := eq_true q174
                   go_wp2_with (first | ((with_reducible refine zbp (N := 6) rfl ?_); (try (refine zbS (by rfl) ?_; dsimp only)); refine zbO ?hg (N := 6) ?hd (cs := #[.string (⟨#[]⟩ : ByteArray), .slice none 0 0, .string (⟨#[]⟩ : ByteArray)]) (t := 57) ?hr ?_; (case hd => rfl); (case hg => rfl); (case hr => first | (go_simp; done) | (go_simp; rfl)); intro gb175 hg w45 hbox hb; have n0_ := zaa.mk (zci (g := gb172) (o := .cells #[.string ((zai l0 x3_1).f0), .string ((zai l0 x3_1).f1), .slice A171_2 ((zai l0 x3_1).f2).length c171_2, .slice (some ad174) ((zai l0 x3_1).f3).length c171_3] 44 (0, 0)) (by (with_reducible repeat (first | refine zaD ?_ _ | refine zaI ?_ | refine zaE ?_ _)); exact BK172.out) hb); have n1_ := zaa.mk (zaq (by repeat (first | (with_reducible first | exact HB.out | apply zad | apply zac | apply zae | refine zav ?_ GE172.out) | exact HB.out)) hb); have n2_ := zaa.mk (hbox); have n3_ := zaa.mk ((by rw [hg]; exact (zaL (by repeat (first | (with_reducible first | exact HB.out | apply zad | apply zac | apply zae | refine zav ?_ GE172.out) | exact HB.out))) : w.heap.size ≤ gb175)); have n4_ := zaa.mk ((by rw [hg]; exact (zaL (by repeat (first | (with_reducible first | exact HB.out | apply zad | apply zac | apply zae | refine zav ?_ GE172.out) | exact HB.out))) : w.heap.size ≤ gb175)); have n5_ := zaa.mk ((by rw [hg]; exact Nat.ne_of_lt (zct (g := gb172) (o := .cells #[.string ((zai l0 x3_1).f0), .string ((zai l0 x3_1).f1), .slice A171_2 ((zai l0 x3_1).f2).length c171_2, .slice (some ad174) ((zai l0 x3_1).f3).length c171_3] 44 (0, 0)) (by (with_reducible repeat (first | refine zaD ?_ _ | refine zaI ?_ | refine zaE ?_ _)); exact BK172.out)) : gb172 ≠ gb175)); have n6_ := zaa.mk ((by rw [hg]; exact Nat.ne_of_gt (zct (g := gb172) (o := .cells #[.string ((zai l0 x3_1).f0), .string ((zai l0 x3_1).f1), .slice A171_2 ((zai l0 x3_1).f2).length c171_2, .slice (some ad174) ((zai l0 x3_1).f3).length c171_3] 44 (0, 0)) (by (with_reducible repeat (first | refine zaD ?_ _ | refine zaI ?_ | refine zaE ?_ _)); exact BK172.out)) : gb175 ≠ gb172)); clear BK172; clear HB; have BK172 := n0_; have HB := n1_; have BK175 := n2_; have GW175 := n3_; have GE175 := n4_; have NB172_175 := n5_; have NB175_172 := n6_; clear n0_ n1_ n2_ n3_ n4_ n5_ n6_; clear hb hbox hg; have hnb46 := NB175_172.out; have hnc46 := NB172_175.out; have hcz47_0 : w45.cell? ⟨gb175, 0, none⟩ = some (.string (⟨#[]⟩ : ByteArray)) := (zaB BK175.out 0).trans rfl; have hcz47_1 : w45.cell? ⟨gb175, 1, none⟩ = some (.slice none 0 0) := (zaB BK175.out 1).trans rfl; have hcz47_2 : w45.cell? ⟨gb175, 2, none⟩ = some (.string (⟨#[]⟩ : ByteArray)) := (zaB BK175.out 2).trans rfl; have hfz47_0 := zau BK175.out 0; have hfz47_1 := zau BK175.out 1; have hfz47_2 := zau BK175.out 2) | (go_at_call 26; (with_reducible refine (zam.calls k4 _ _ ((zaR ((zai l0 x3_1).f3) x5_4).f1) false _ ?side1 ?side2 A38.out).mono ?_); (case side1 => exact Kd.zaF HR174_1.out (by repeat (first | (with_reducible first | exact HB.out | apply zad | apply zac | apply zae | refine zav ?_ GE172.out | refine zav ?_ GE175.out) | exact HB.out))); (case side2 => exact HC174_1.out); rintro e w' ⟨rfl, ⟨nd, rfl⟩⟩))
                   go_roundg k4
                   case measure => have := HK1.out; have := HJ1.out; have := HJ6.out; have := HK4.out; omega
                   case rel => exact ⟨(wrap64 (x5_4 + 1)), (by first | rfl | (simp; done) | (simp [*]; done)), H', ⟨by have := HK1.out; have := HJ1.out; have := HJ6.out; have := HK4.out; omega⟩, ⟨by (with_reducible repeat (first | refine zaD ?_ _ | refine zaI ?_ | refine zaE ?_ _)); refine zfS ?_ NB172_175.out _; (with_reducible repeat (first | refine zaD ?_ _ | refine zaI ?_ | refine zaE ?_ _)); refine zfS ?_ NB172_175.out _; (with_reducible repeat (first | refine zaD ?_ _ | refine zaI ?_ | refine zaE ?_ _)); refine zfS ?_ NB172_175.out _; (with_reducible repeat (first | refine zaD ?_ _ | refine zaI ?_ | refine zaE ?_ _)); exact BK172.out⟩, ⟨by repeat (first | (with_reducible first | exact HB.out | apply zad | apply zac | apply zae | refine zav ?_ GE172.out | refine zav ?_ GE175.out) | exact HB.out)⟩⟩
              ·
               rw [if_neg c22] at H
               exact absurd H s9
             ·
              rw [if_neg c21] at H
              have c21b0 : decide (x5_4 < (((zai l0 x3_1).f3).length : Int)) = false := decide_eq_false c21
              clear c21
              have H' := zaa.mk H
              clear H
              have hcz48_0 : wr.cell? ⟨gb172, 0, none⟩ = some (.string ((zai l0 x3_1).f0)) := (zaB BK172.out 0).trans rfl
              have hcz48_1 : wr.cell? ⟨gb172, 1, none⟩ = some (.string ((zai l0 x3_1).f1)) := (zaB BK172.out 1).trans rfl
              have hcz48_2 : wr.cell? ⟨gb172, 2, none⟩ = some (.slice A171_2 ((zai l0 x3_1).f2).length c171_2) := (zaB BK172.out 2).trans rfl
              have hcz48_3 : wr.cell? ⟨gb172, 3, none⟩ = some (.slice A171_3 ((zai l0 x3_1).f3).length c171_3) := (zaB BK172.out 3).trans rfl
              have hfz48_0 := zau BK172.out 0
              have hfz48_1 := zau BK172.out 1
              have hfz48_2 := zau BK172.out 2
              have hfz48_3 := zau BK172.out 3
              go_wp2
              go_roundg k4
              case measure => have := HK1.out; have := HJ1.out; have := HJ6.out; have := HK4.out; omega
              case rel => exact ⟨(wrap64 (x3_1 + 1)), (by first | rfl | (simp; done) | (simp [*]; done)), H', ⟨by have := HK1.out; have := HJ1.out; have := HJ6.out; have := HK4.out; omega⟩, ⟨by repeat (first | (with_reducible first | exact HB.out | apply zad | apply zac | apply zae | refine zav ?_ GE172.out) | exact HB.out)⟩⟩
       ·
        rw [if_neg c6] at H
        exact absurd H s9
      ·
       rw [if_neg c5] at H
       exact absurd H s9
     ·
      replace c4 := Bool.eq_false_iff.mpr c4
      subst c4
      have H1 : (some (decide ((l0.length : Int) > 9))) = some r := by rw [if_neg (show ¬ (false = true) by decide)] at H; exact H
      clear H
      have H := H1
      clear H1
      obtain rfl := Option.some.inj H
      go_wp2
      go_ret
      exact ⟨by first | rfl | (simp [zaS, zaT] <;> rfl) | (simp [*, zaS, zaT] <;> rfl), by repeat (first | (with_reducible first | exact HB.out | apply zad | apply zac | apply zae) | exact HB.out)⟩
def zbq.f (a0 : Int) (a1 : Int) : Option (Int) := if a1 ≤ 0 then (some 0) else (if a1 = 0 then (none) else (if (Int.tmod a0 a1) < 0 then (some (wrap64 ((Int.tmod a0 a1) + a1))) else (some (Int.tmod a0 a1))))
theorem zbq.calls (a0 : Int) (a1 : Int) (r : Int) (w : World) (h : zbq.f a0 a1 = some r) :
  Calls Tryd.prog 16 #[.int .i64 a0, .int .i64 a1] w fun e w' => e = .returned (.int .i64 r) ∧ zbb w w' := by
 have H : (if a1 ≤ 0 then (some 0) else (if a1 = 0 then (none) else (if (Int.tmod a0 a1) < 0 then (some (wrap64 ((Int.tmod a0 a1) + a1))) else (some (Int.tmod a0 a1))))) = some r := h
 clear h
 by_cases c3 : a1 ≤ 0
 ·
  rw [if_pos c3] at H
  have c3b0 : decide (a1 ≤ 0) = true := decide_eq_true c3
  clear c3
  obtain rfl := Option.some.inj H
  go_enter Tryd.func16, Tryd.ntmps16
  go_wp2
  go_ret
  exact ⟨by first | rfl | (simp; done) | (simp [*]; done), by repeat (first | exact zbb.refl _ | apply zbb.step)⟩
 ·
  rw [if_neg c3] at H
  have c3b0 : decide (a1 ≤ 0) = false := decide_eq_false c3
  clear c3
  by_cases c4 : a1 = 0
  ·
   rw [if_pos c4] at H
   exact absurd H s9
  ·
   rw [if_neg c4] at H
   have c4b0 : (a1 == 0) = false := beq_eq_false_iff_ne.mpr c4
   have c4b1 : (a1 != 0) = true := bne_iff_ne.mpr c4
   by_cases c5 : (Int.tmod a0 a1) < 0
   ·
    rw [if_pos c5] at H
    have c5b0 : decide ((Int.tmod a0 a1) < 0) = true := decide_eq_true c5
    clear c5
    obtain rfl := Option.some.inj H
    go_enter Tryd.func16, Tryd.ntmps16
    go_wp2
    go_ret
    exact ⟨by first | rfl | (simp; done) | (simp [*]; done), by repeat (first | exact zbb.refl _ | apply zbb.step)⟩
   ·
    rw [if_neg c5] at H
    have c5b0 : decide ((Int.tmod a0 a1) < 0) = false := decide_eq_false c5
    clear c5
    obtain rfl := Option.some.inj H
    go_enter Tryd.func16, Tryd.ntmps16
    go_wp2
    go_ret
    exact ⟨by first | rfl | (simp; done) | (simp [*]; done), by repeat (first | exact zbb.refl _ | apply zbb.step)⟩
open Go.Proofs.YtofoegknealilaaDoorTab in
def za3.f (k : Nat) (l0 : List (S44)) (a1 a2 : ByteArray) : Option (Int × Bool) := (zar.f k l0 a1).bind fun L => if L.length < 4398046511104 then some (arN L a2, arB L a2) else none
theorem za3.mono : ∀ l0 a1 a2 k, LeO (za3.f k l0 a1 a2) (za3.f (k + 1) l0 a1 a2) := by
 intro l0 a1 a2 k
 exact LeO.bind (zar.mono l0 a1 k) (fun o => LeO.refl _)
open Go.Proofs.YtofoegknealilaaDoorTab in
theorem za3.calls (k : Nat) (A0 : Option Addr) (c0 : Nat) (l0 : List (S44)) (a1 a2 : ByteArray) (r1 : Int) (r2 : Bool) (w : World) (hr0 : Kd.C k44 w A0 l0.length l0) (hc0 : l0.length ≤ c0) (h : za3.f k l0 a1 a2 = some (r1, r2)) :
  Calls Tryd.prog 20 #[.slice A0 l0.length c0, .string a1, .string a2] w fun e w' => e = .returned (.tuple #[.int .i64 r1, .bool r2]) ∧ Below w.heap.size w w' := by
 obtain ⟨L, hL, h⟩ := Option.bind_eq_some_iff.1 h
 by_cases hl : L.length < 4398046511104
 ·
  rw [if_pos hl] at h
  cases h
  exact zdK A0 c0 l0 a1 a2 L w (fun w' hb => zar.calls k A0 c0 l0 a1 L w' (Kd.zaF hr0 hb) hc0 hL) hl
 ·
  rw [if_neg hl] at h; cases h
open Go.Proofs.YtofoegknealilaaDoorTab in
def zbr.f (l0 : List (S44)) (a1 a2 : ByteArray) : Option (ByteArray × Bool) := if l0.length < 4398046511104 ∧ (zbe l0 a1).length < 4398046511104 then some (zbG l0 a1 a2, zbE l0 a1 a2) else none
open Go.Proofs.YtofoegknealilaaDoorTab in
theorem zbr.calls (A0 : Option Addr) (c0 : Nat) (l0 : List (S44)) (a1 a2 : ByteArray) (r1 : ByteArray) (r2 : Bool) (w : World) (hr0 : Kd.C k44 w A0 l0.length l0) (hc0 : l0.length ≤ c0) (h : zbr.f l0 a1 a2 = some (r1, r2)) :
  Calls Tryd.prog 21 #[.slice A0 l0.length c0, .string a1, .string a2] w fun e w' => e = .returned (.tuple #[.string r1, .bool r2]) ∧ Below w.heap.size w w' := by
 unfold zbr.f at h
 by_cases hl : l0.length < 4398046511104 ∧ (zbe l0 a1).length < 4398046511104
 ·
  rw [if_pos hl] at h
  cases h
  exact zd7 A0 c0 l0 a1 a2 w hr0 hl.1 hl.2
 ·
  rw [if_neg hl] at h; cases h
mutual
def chaperonlaw06_SubtypeHas.j0 : Nat → List (S44) → Int → Bool → Bool → Option (Bool)
 | 0, _, _, _, _ => none
 | k + 1, x0, x1, x5, x31 => if x31 = true then (some x5) else ((zbq.f x1 (x0.length : Int)).bind fun t246 => (if 0 ≤ t246 then (if t246 < (x0.length : Int) then ((zaj.f k x0 ((zai x0 t246).f0)).bind fun t248 => (chaperonlaw06_SubtypeHas.l0 k x0 x5 ((zai x0 t246).f0) t248 0 0)) else (none)) else (none)))
def chaperonlaw06_SubtypeHas.l0 : Nat → List (S44) → Bool → ByteArray → List ByteArray → Int → Int → Option (Bool)
 | 0, _, _, _, _, _, _ => none
 | k + 1, x0, x5, x6, x7, x8, x9 => if x9 < (x0.length : Int) then (if 0 ≤ x9 then ((zan.f k x0 ((zai x0 x9).f0) x6).bind fun t253 => (if t253 = true then (if x8 ≥ (x7.length : Int) then (none) else (if 0 ≤ x8 then (if x8 < (x7.length : Int) then (chaperonlaw06_SubtypeHas.j2 k x0 x5 x6 x7 x8 x9 ((rdOf ByteArray.empty x7 x8).toList != ((zai x0 x9).f0).toList)) else (none)) else (none))) else (chaperonlaw06_SubtypeHas.l0 k x0 x5 x6 x7 x8 (wrap64 (x9 + 1))))) else (none)) else (if x5 = true then (if x8 = (x7.length : Int) then ((zat.f k x0 x6).bind fun t251 => (some (t251 == (x8 == 1)))) else (none)) else (none))
def chaperonlaw06_SubtypeHas.j2 : Nat → List (S44) → Bool → ByteArray → List ByteArray → Int → Int → Bool → Option (Bool)
 | 0, _, _, _, _, _, _, _ => none
 | k + 1, x0, x5, x6, x7, x8, x9, x74 => if x74 = true then (none) else ((zar.f k x0 x6).bind fun t256 => (chaperonlaw06_SubtypeHas.l1 k x0 x5 x6 x7 (wrap64 (x8 + 1)) x9 t256 0))
def chaperonlaw06_SubtypeHas.l1 : Nat → List (S44) → Bool → ByteArray → List ByteArray → Int → Int → List (S50) → Int → Option (Bool)
 | 0, _, _, _, _, _, _, _, _ => none
 | k + 1, x0, x5, x6, x7, x8, x9, x10, x11 => if x11 < (x10.length : Int) then (if 0 ≤ x9 then (if x9 < (x0.length : Int) then (if 0 ≤ x11 then ((za3.f k x0 ((zai x0 x9).f0) ((zbn x10 x11).f0)).bind fun bt261 => ((zbr.f x0 x6 ((zbn x10 x11).f0)).bind fun bt264 => ((zbr.f x0 ((zai x0 x9).f0) ((zbn x10 x11).f0)).bind fun bt268 => (if bt261.2 = true then (if bt261.1 = ((zbn x10 x11).f1) then (if bt264.1.toList = bt268.1.toList then (chaperonlaw06_SubtypeHas.l1 k x0 x5 x6 x7 x8 x9 x10 (wrap64 (x11 + 1))) else (none)) else (none)) else (none))))) else (none)) else (none)) else (none)) else (chaperonlaw06_SubtypeHas.l0 k x0 x5 x6 x7 x8 (wrap64 (x9 + 1)))
end
def chaperonlaw06_SubtypeHas.f (k : Nat) (l0 : List (S44)) (a1 : Int) : Option (Bool) := (zab.f k).bind fun t242 => ((zaf.f k l0).bind fun t243 => (if t243 = true then (chaperonlaw06_SubtypeHas.j0 k l0 a1 t242 true) else ((zas.f k l0).bind fun bt244 => (if bt244.1 = 0 then (chaperonlaw06_SubtypeHas.j0 k l0 a1 t242 ((l0.length : Int) == 0)) else (chaperonlaw06_SubtypeHas.j0 k l0 a1 t242 true)))))
theorem chaperonlaw06_SubtypeHas.zbI : ∀ k, (∀ y0 y1 y2 y3, LeO (chaperonlaw06_SubtypeHas.j0 k y0 y1 y2 y3) (chaperonlaw06_SubtypeHas.j0 (k + 1) y0 y1 y2 y3)) ∧ (∀ y0 y1 y2 y3 y4 y5, LeO (chaperonlaw06_SubtypeHas.l0 k y0 y1 y2 y3 y4 y5) (chaperonlaw06_SubtypeHas.l0 (k + 1) y0 y1 y2 y3 y4 y5)) ∧ (∀ y0 y1 y2 y3 y4 y5 y6, LeO (chaperonlaw06_SubtypeHas.j2 k y0 y1 y2 y3 y4 y5 y6) (chaperonlaw06_SubtypeHas.j2 (k + 1) y0 y1 y2 y3 y4 y5 y6)) ∧ (∀ y0 y1 y2 y3 y4 y5 y6 y7, LeO (chaperonlaw06_SubtypeHas.l1 k y0 y1 y2 y3 y4 y5 y6 y7) (chaperonlaw06_SubtypeHas.l1 (k + 1) y0 y1 y2 y3 y4 y5 y6 y7))
 | 0 => ⟨fun _ _ _ _ r h => by simp [chaperonlaw06_SubtypeHas.j0] at h, fun _ _ _ _ _ _ r h => by simp [chaperonlaw06_SubtypeHas.l0] at h, fun _ _ _ _ _ _ _ r h => by simp [chaperonlaw06_SubtypeHas.j2] at h, fun _ _ _ _ _ _ _ _ r h => by simp [chaperonlaw06_SubtypeHas.l1] at h⟩
 | k + 1 => by
  obtain ⟨ih0, ih1, ih2, ih3⟩ := chaperonlaw06_SubtypeHas.zbI k
  refine ⟨?_, ?_, ?_, ?_⟩
  ·
   intro y0 y1 y2 y3
   unfold chaperonlaw06_SubtypeHas.j0
   repeat' first
   | (with_reducible exact ih0 _ _ _ _)
   | (with_reducible exact ih1 _ _ _ _ _ _)
   | (with_reducible exact ih2 _ _ _ _ _ _ _)
   | (with_reducible exact ih3 _ _ _ _ _ _ _ _)
   | (with_reducible exact zaf.mono _ _)
   | (with_reducible exact zab.mono _)
   | (with_reducible exact zaj.mono _ _ _)
   | (with_reducible exact zat.mono _ _ _)
   | (with_reducible exact zan.mono _ _ _ _)
   | (with_reducible exact za3.mono _ _ _ _)
   | (with_reducible exact zas.mono _ _)
   | (with_reducible exact zar.mono _ _ _)
   | (with_reducible exact LeO.refl _)
   | (with_reducible exact LeO.none _)
   | (with_reducible refine LeO.ite ?_ ?_)
   | (with_reducible refine LeO.bind ?_ (fun _ => ?_))
   | exact ih0 _ _ _ _
   | exact ih1 _ _ _ _ _ _
   | exact ih2 _ _ _ _ _ _ _
   | exact ih3 _ _ _ _ _ _ _ _
   | exact zaf.mono _ _
   | exact zab.mono _
   | exact zaj.mono _ _ _
   | exact zat.mono _ _ _
   | exact zan.mono _ _ _ _
   | exact za3.mono _ _ _ _
   | exact zas.mono _ _
   | exact zar.mono _ _ _
   | exact LeO.none _
   | refine LeO.ite ?_ ?_
   | refine LeO.bind ?_ (fun _ => ?_)
  ·
   intro y0 y1 y2 y3 y4 y5
   unfold chaperonlaw06_SubtypeHas.l0
   repeat' first
   | (with_reducible exact ih0 _ _ _ _)
   | (with_reducible exact ih1 _ _ _ _ _ _)
   | (with_reducible exact ih2 _ _ _ _ _ _ _)
   | (with_reducible exact ih3 _ _ _ _ _ _ _ _)
   | (with_reducible exact zaf.mono _ _)
   | (with_reducible exact zab.mono _)
   | (with_reducible exact zaj.mono _ _ _)
   | (with_reducible exact zat.mono _ _ _)
   | (with_reducible exact zan.mono _ _ _ _)
   | (with_reducible exact za3.mono _ _ _ _)
   | (with_reducible exact zas.mono _ _)
   | (with_reducible exact zar.mono _ _ _)
   | (with_reducible exact LeO.refl _)
   | (with_reducible exact LeO.none _)
   | (with_reducible refine LeO.ite ?_ ?_)
   | (with_reducible refine LeO.bind ?_ (fun _ => ?_))
   | exact ih0 _ _ _ _
   | exact ih1 _ _ _ _ _ _
   | exact ih2 _ _ _ _ _ _ _
   | exact ih3 _ _ _ _ _ _ _ _
   | exact zaf.mono _ _
   | exact zab.mono _
   | exact zaj.mono _ _ _
   | exact zat.mono _ _ _
   | exact zan.mono _ _ _ _
   | exact za3.mono _ _ _ _
   | exact zas.mono _ _
   | exact zar.mono _ _ _
   | exact LeO.none _
   | refine LeO.ite ?_ ?_
   | refine LeO.bind ?_ (fun _ => ?_)
  ·
   intro y0 y1 y2 y3 y4 y5 y6
   unfold chaperonlaw06_SubtypeHas.j2
   repeat' first
   | (with_reducible exact ih0 _ _ _ _)
   | (with_reducible exact ih1 _ _ _ _ _ _)
   | (with_reducible exact ih2 _ _ _ _ _ _ _)
   | (with_reducible exact ih3 _ _ _ _ _ _ _ _)
   | (with_reducible exact zaf.mono _ _)
   | (with_reducible exact zab.mono _)
   | (with_reducible exact zaj.mono _ _ _)
   | (with_reducible exact zat.mono _ _ _)
   | (with_reducible exact zan.mono _ _ _ _)
   | (with_reducible exact za3.mono _ _ _ _)
   | (with_reducible exact zas.mono _ _)
   | (with_reducible exact zar.mono _ _ _)
   | (with_reducible exact LeO.refl _)
   | (with_reducible exact LeO.none _)
   | (with_reducible refine LeO.ite ?_ ?_)
   | (with_reducible refine LeO.bind ?_ (fun _ => ?_))
   | exact ih0 _ _ _ _
   | exact ih1 _ _ _ _ _ _
   | exact ih2 _ _ _ _ _ _ _
   | exact ih3 _ _ _ _ _ _ _ _
   | exact zaf.mono _ _
   | exact zab.mono _
   | exact zaj.mono _ _ _
   | exact zat.mono _ _ _
   | exact zan.mono _ _ _ _
   | exact za3.mono _ _ _ _
   | exact zas.mono _ _
   | exact zar.mono _ _ _
   | exact LeO.none _
   | refine LeO.ite ?_ ?_
   | refine LeO.bind ?_ (fun _ => ?_)
  ·
   intro y0 y1 y2 y3 y4 y5 y6 y7
   unfold chaperonlaw06_SubtypeHas.l1
   repeat' first
   | (with_reducible exact ih0 _ _ _ _)
   | (with_reducible exact ih1 _ _ _ _ _ _)
   | (with_reducible exact ih2 _ _ _ _ _ _ _)
   | (with_reducible exact ih3 _ _ _ _ _ _ _ _)
   | (with_reducible exact zaf.mono _ _)
   | (with_reducible exact zab.mono _)
   | (with_reducible exact zaj.mono _ _ _)
   | (with_reducible exact zat.mono _ _ _)
   | (with_reducible exact zan.mono _ _ _ _)
   | (with_reducible exact za3.mono _ _ _ _)
   | (with_reducible exact zas.mono _ _)
   | (with_reducible exact zar.mono _ _ _)
   | (with_reducible exact LeO.refl _)
   | (with_reducible exact LeO.none _)
   | (with_reducible refine LeO.ite ?_ ?_)
   | (with_reducible refine LeO.bind ?_ (fun _ => ?_))
   | exact ih0 _ _ _ _
   | exact ih1 _ _ _ _ _ _
   | exact ih2 _ _ _ _ _ _ _
   | exact ih3 _ _ _ _ _ _ _ _
   | exact zaf.mono _ _
   | exact zab.mono _
   | exact zaj.mono _ _ _
   | exact zat.mono _ _ _
   | exact zan.mono _ _ _ _
   | exact za3.mono _ _ _ _
   | exact zas.mono _ _
   | exact zar.mono _ _ _
   | exact LeO.none _
   | refine LeO.ite ?_ ?_
   | refine LeO.bind ?_ (fun _ => ?_)
theorem chaperonlaw06_SubtypeHas.mono : ∀ a0 a1 k, LeO (chaperonlaw06_SubtypeHas.f k a0 a1) (chaperonlaw06_SubtypeHas.f (k + 1) a0 a1) := by
 intro a0 a1 k
 obtain ⟨ih0, ih1, ih2, ih3⟩ := chaperonlaw06_SubtypeHas.zbI k
 unfold chaperonlaw06_SubtypeHas.f
 repeat' first
   | (with_reducible exact ih0 _ _ _ _)
   | (with_reducible exact ih1 _ _ _ _ _ _)
   | (with_reducible exact ih2 _ _ _ _ _ _ _)
   | (with_reducible exact ih3 _ _ _ _ _ _ _ _)
   | (with_reducible exact zaf.mono _ _)
   | (with_reducible exact zab.mono _)
   | (with_reducible exact zaj.mono _ _ _)
   | (with_reducible exact zat.mono _ _ _)
   | (with_reducible exact zan.mono _ _ _ _)
   | (with_reducible exact za3.mono _ _ _ _)
   | (with_reducible exact zas.mono _ _)
   | (with_reducible exact zar.mono _ _ _)
   | (with_reducible exact LeO.refl _)
   | (with_reducible exact LeO.none _)
   | (with_reducible refine LeO.ite ?_ ?_)
   | (with_reducible refine LeO.bind ?_ (fun _ => ?_))
   | exact ih0 _ _ _ _
   | exact ih1 _ _ _ _ _ _
   | exact ih2 _ _ _ _ _ _ _
   | exact ih3 _ _ _ _ _ _ _ _
   | exact zaf.mono _ _
   | exact zab.mono _
   | exact zaj.mono _ _ _
   | exact zat.mono _ _ _
   | exact zan.mono _ _ _ _
   | exact za3.mono _ _ _ _
   | exact zas.mono _ _
   | exact zar.mono _ _ _
   | exact LeO.none _
   | refine LeO.ite ?_ ?_
   | refine LeO.bind ?_ (fun _ => ?_)
def chaperonlaw06_SubtypeHas.T11 : Bool × List (List Nat × List Nat) := (true, [([], []), ([], []), ([1], [1]), ([0, 2], [0, 2]), ([3], [3]), ([4], [4]), ([4], [4]), ([5, 6, 4], [4, 5, 6]), ([7, 4], [4, 7]), ([4], [4]), ([4], [4]), ([9, 10, 4], [4, 9, 10]), ([11, 4], [4, 11]), ([12, 4], [4, 12]), ([8, 13, 4], [4, 8, 13]), ([4, 14], [4, 14])])
def chaperonlaw06_SubtypeHas.B11 : List Nat := [0, 0, 2, 7, 15, 31, 31, 127, 255, 31, 31, 1567, 3615, 7711, 16383, 32767]
theorem chaperonlaw06_SubtypeHas.tab11 : rtab .any (opsOf Tryd.f6 11) = chaperonlaw06_SubtypeHas.T11 := by kernel_rfl
theorem chaperonlaw06_SubtypeHas.bits11 : zc3 chaperonlaw06_SubtypeHas.T11.2 chaperonlaw06_SubtypeHas.B11 = true := by kernel_rfl
def chaperonlaw06_SubtypeHas.T18 : Bool × List (List Nat × List Nat) := (true, [([], []), ([], []), ([], []), ([1, 2], [1, 2]), ([3], [3]), ([4], [4]), ([], []), ([], []), ([6, 7], [6, 7]), ([8], [8]), ([9], [9]), ([0, 5, 10], [0, 5, 10]), ([11], [11]), ([12], [12]), ([12], [12]), ([13, 11, 0, 1, 2, 3, 4, 5, 6, 7, 8, 9, 10, 11, 12, 13], [13]), ([14, 15, 0, 1, 2, 3, 4, 5, 6, 7, 8, 9, 10, 11, 12, 13, 14, 15], [14])])
def chaperonlaw06_SubtypeHas.B18 : List Nat := [0, 0, 0, 6, 14, 30, 0, 0, 192, 448, 960, 2047, 4095, 8191, 8191, 16383, 65535]
theorem chaperonlaw06_SubtypeHas.tab18 : rtab .any (opsOf Tryd.f6 18) = chaperonlaw06_SubtypeHas.T18 := by kernel_rfl
theorem chaperonlaw06_SubtypeHas.bits18 : zc3 chaperonlaw06_SubtypeHas.T18.2 chaperonlaw06_SubtypeHas.B18 = true := by kernel_rfl
def chaperonlaw06_SubtypeHas.T20 : Bool × List (List Nat × List Nat) := (true, [([], []), ([], []), ([], []), ([1, 2], [1, 2]), ([3], [3]), ([4], [4]), ([], []), ([], []), ([6, 7], [6, 7]), ([8], [8]), ([9], [9]), ([0, 5, 10], [0, 5, 10]), ([11], [11]), ([12], [12]), ([12], [12]), ([13, 11, 0, 1, 2, 3, 4, 5, 6, 7, 8, 9, 10, 11, 12, 13], [13]), ([14, 15, 0, 1, 2, 3, 4, 5, 6, 7, 8, 9, 10, 11, 12, 13, 14, 15], [14])])
def chaperonlaw06_SubtypeHas.B20 : List Nat := [0, 0, 0, 6, 14, 30, 0, 0, 192, 448, 960, 2047, 4095, 8191, 8191, 16383, 65535]
theorem chaperonlaw06_SubtypeHas.tab20 : rtab .any (opsOf Tryd.f6 20) = chaperonlaw06_SubtypeHas.T20 := by kernel_rfl
theorem chaperonlaw06_SubtypeHas.bits20 : zc3 chaperonlaw06_SubtypeHas.T20.2 chaperonlaw06_SubtypeHas.B20 = true := by kernel_rfl
theorem chaperonlaw06_SubtypeHas.calls (k : Nat) (A0 : Option Addr) (c0 : Nat) (l0 : List (S44)) (a1 : Int) (r : Bool) (w : World) (hr0 : Kd.C k44 w A0 l0.length l0) (hc0 : l0.length ≤ c0) (h : chaperonlaw06_SubtypeHas.f k l0 a1 = some r) (hG : Go.Proofs.YtofoegknealilaaDoorTab.GW w := by exact Go.Proofs.YtofoegknealilaaDoorTab.GW.below hG (by repeat (first | (with_reducible first | exact HB.out | apply zad | apply zac | apply zae) | exact HB.out | refine zav ?_ (zaa.out (by assumption)) | exact Below.refl _ _))) :
  Calls Tryd.prog 6 #[.slice A0 l0.length c0, .int .i64 a1] w fun e w' => e = .returned (.bool r) ∧ Below w.heap.size w w' := by
 have HR0 := zaa.mk hr0
 have HC0 := zaa.mk hc0
 clear hr0 hc0
 have HB := zaa.mk (Below.refl w.heap.size w)
 have hf_ : ∀ (a b : Int) (w : World), (Instr.field 36 (.agg #[.int .i64 a, .int .i64 b]) 0).run Tryd.prog w = .ok (.int .i64 a) w := fun a b w => by simp [Instr.field, asAgg, part, isAgg, go_sem, run_underlying Tryd.underlying36, run_underlying Tryd.underlying34]
 have H : ((zab.f k).bind fun t242 => ((zaf.f k l0).bind fun t243 => (if t243 = true then (chaperonlaw06_SubtypeHas.j0 k l0 a1 t242 true) else ((zas.f k l0).bind fun bt244 => (if bt244.1 = 0 then (chaperonlaw06_SubtypeHas.j0 k l0 a1 t242 ((l0.length : Int) == 0)) else (chaperonlaw06_SubtypeHas.j0 k l0 a1 t242 true)))))) = some r := h
 clear h
 replace H := Option.bind_eq_some_iff.mp H
 obtain ⟨t242, A30, H⟩ := H
 replace H : ((zaf.f k l0).bind fun t243 => (if t243 = true then (chaperonlaw06_SubtypeHas.j0 k l0 a1 t242 true) else ((zas.f k l0).bind fun bt244 => (if bt244.1 = 0 then (chaperonlaw06_SubtypeHas.j0 k l0 a1 t242 ((l0.length : Int) == 0)) else (chaperonlaw06_SubtypeHas.j0 k l0 a1 t242 true))))) = some r := H
 have A3 := zaa.mk A30
 clear A30
 have HC4 := zaa.mk H
 clear H
 go_enter Tryd.func6, Tryd.ntmps6
 go_upto_region 2 with (first | ((with_reducible refine zaO (f := 3) rfl ?_); refine zbj (some 18) rfl rfl Tryd.func3 k9 rfl #[] rfl m9 ?_; (with_reducible refine (zab.calls k  t242 _ A3.out).mono ?_); rintro e w5 ⟨rfl, hb⟩; refine ⟨_, rfl, ?_⟩; have n0_ := zaa.mk (zaq (by repeat (first | (with_reducible first | exact HB.out | apply zad | apply zac | apply zae) | exact HB.out)) hb); clear HB; have HB := n0_; clear n0_; (try clear hb); (try clear hb2); (try clear hk); (try clear hi)))
 (try simp only [Act.put, List.setIfInBounds_toArray, List.set_cons_zero, List.set_cons_succ])
 go_cut [31] (fun v31 wc => ∃ (kq : Nat) (x31_3 : Bool), v31 = .bool x31_3 ∧ zaa (chaperonlaw06_SubtypeHas.j0 kq l0 a1 t242 x31_3 = some r) ∧ zaa (kq ≤ k) ∧ zaa (Below w.heap.size w wc))
 case first =>
  have H := HC4.out
  clear HC4
  replace H := Option.bind_eq_some_iff.mp H
  obtain ⟨t243, A60, H⟩ := H
  replace H : (if t243 = true then (chaperonlaw06_SubtypeHas.j0 k l0 a1 t242 true) else ((zas.f k l0).bind fun bt244 => (if bt244.1 = 0 then (chaperonlaw06_SubtypeHas.j0 k l0 a1 t242 ((l0.length : Int) == 0)) else (chaperonlaw06_SubtypeHas.j0 k l0 a1 t242 true)))) = some r := H
  have A6 := zaa.mk A60
  clear A60
  by_cases c7 : t243 = true
  ·
   subst c7
   have H1 : (chaperonlaw06_SubtypeHas.j0 k l0 a1 t242 true) = some r := by rw [if_pos rfl] at H; exact H
   clear H
   have H := H1
   clear H1
   as_aux_lemma =>
    have H' := zaa.mk H
    clear H
    go_wp2_with (first | ((with_reducible refine zaO (f := 14) rfl ?_); refine zbj (some 20) rfl rfl Tryd.func14 k9 rfl #[.slice A0 l0.length c0] rfl m9 ?_; (with_reducible refine (zaf.calls k _ _ l0 true _ ?side1 ?side2 A6.out).mono ?_); (case side1 => repeat (first | exact (Kd.zaF HR0.out HB.out) | (with_reducible refine Kd.zaM ?_ _) | (with_reducible refine Kd.zaN ?_ _) | (with_reducible refine Kd.zaW ?_))); (case side2 => exact HC0.out); rintro e w8 ⟨rfl, hb⟩; refine ⟨_, rfl, ?_⟩; have n0_ := zaa.mk (zaq (by repeat (first | (with_reducible first | exact HB.out | apply zad | apply zac | apply zae) | exact HB.out)) hb); clear HB; have HB := n0_; clear n0_; (try clear hb); (try clear hb2); (try clear hk); (try clear hi)))
    go_meet
    case rel => exact ⟨_, (true), (by first | rfl | (simp; done) | (simp [*]; done)), H', ⟨by first | omega | exact Nat.le_refl _⟩, ⟨by repeat (first | (with_reducible first | exact HB.out | apply zad | apply zac | apply zae) | exact HB.out)⟩⟩
  ·
   replace c7 := Bool.eq_false_iff.mpr c7
   subst c7
   have H1 : ((zas.f k l0).bind fun bt244 => (if bt244.1 = 0 then (chaperonlaw06_SubtypeHas.j0 k l0 a1 t242 ((l0.length : Int) == 0)) else (chaperonlaw06_SubtypeHas.j0 k l0 a1 t242 true))) = some r := by rw [if_neg (show ¬ (false = true) by decide)] at H; exact H
   clear H
   have H := H1
   clear H1
   replace H := Option.bind_eq_some_iff.mp H
   obtain ⟨⟨t244, t245⟩, A90, H⟩ := H
   replace H : (if t244 = 0 then (chaperonlaw06_SubtypeHas.j0 k l0 a1 t242 ((l0.length : Int) == 0)) else (chaperonlaw06_SubtypeHas.j0 k l0 a1 t242 true)) = some r := H
   have A9 := zaa.mk A90
   clear A90
   by_cases c10 : t244 = 0
   ·
    rw [if_pos c10] at H
    have c10b0 : (t244 == 0) = true := beq_iff_eq.mpr c10
    have c10b1 : (t244 != 0) = false := bne_eq_false_iff_eq.mpr c10
    clear c10
    (first | rw [c10b0] | (simp only [i64_w, i32_w]; rw [c10b0]) | skip)
    as_aux_lemma =>
     have H' := zaa.mk H
     clear H
     go_wp2_with (first | ((with_reducible refine zaO (f := 14) rfl ?_); refine zbj (some 20) rfl rfl Tryd.func14 k9 rfl #[.slice A0 l0.length c0] rfl m9 ?_; (with_reducible refine (zaf.calls k _ _ l0 false _ ?side1 ?side2 A6.out).mono ?_); (case side1 => repeat (first | exact (Kd.zaF HR0.out HB.out) | (with_reducible refine Kd.zaM ?_ _) | (with_reducible refine Kd.zaN ?_ _) | (with_reducible refine Kd.zaW ?_))); (case side2 => exact HC0.out); rintro e w11 ⟨rfl, hb⟩; refine ⟨_, rfl, ?_⟩; have n0_ := zaa.mk (zaq (by repeat (first | (with_reducible first | exact HB.out | apply zad | apply zac | apply zae) | exact HB.out)) hb); clear HB; have HB := n0_; clear n0_; (try clear hb); (try clear hb2); (try clear hk); (try clear hi)) | (go_at_call 17; (with_reducible refine (zas.calls k _ _ l0 t244 t245 _ ?side1 ?side2 A9.out).mono ?_); (case side1 => repeat (first | exact (Kd.zaF HR0.out HB.out) | (with_reducible refine Kd.zaM ?_ _) | (with_reducible refine Kd.zaN ?_ _) | (with_reducible refine Kd.zaW ?_))); (case side2 => exact HC0.out); rintro e w12 ⟨rfl, hb⟩; have n0_ := zaa.mk (zaq (by repeat (first | (with_reducible first | exact HB.out | apply zad | apply zac | apply zae) | exact HB.out)) hb); clear HB; have HB := n0_; clear n0_; (try clear hb); (try clear hb2); (try clear hk); (try clear hi)))
     go_meet
     case rel => exact ⟨_, (((l0.length : Int) == 0)), (by first | rfl | (simp; done) | (simp [*]; done)), H', ⟨by first | omega | exact Nat.le_refl _⟩, ⟨by repeat (first | (with_reducible first | exact HB.out | apply zad | apply zac | apply zae) | exact HB.out)⟩⟩
   ·
    rw [if_neg c10] at H
    have c10b0 : (t244 == 0) = false := beq_eq_false_iff_ne.mpr c10
    have c10b1 : (t244 != 0) = true := bne_iff_ne.mpr c10
    (first | rw [c10b0] | (simp only [i64_w, i32_w]; rw [c10b0]) | skip)
    as_aux_lemma =>
     have H' := zaa.mk H
     clear H
     go_wp2_with (first | ((with_reducible refine zaO (f := 14) rfl ?_); refine zbj (some 20) rfl rfl Tryd.func14 k9 rfl #[.slice A0 l0.length c0] rfl m9 ?_; (with_reducible refine (zaf.calls k _ _ l0 false _ ?side1 ?side2 A6.out).mono ?_); (case side1 => repeat (first | exact (Kd.zaF HR0.out HB.out) | (with_reducible refine Kd.zaM ?_ _) | (with_reducible refine Kd.zaN ?_ _) | (with_reducible refine Kd.zaW ?_))); (case side2 => exact HC0.out); rintro e w13 ⟨rfl, hb⟩; refine ⟨_, rfl, ?_⟩; have n0_ := zaa.mk (zaq (by repeat (first | (with_reducible first | exact HB.out | apply zad | apply zac | apply zae) | exact HB.out)) hb); clear HB; have HB := n0_; clear n0_; (try clear hb); (try clear hb2); (try clear hk); (try clear hi)) | (go_at_call 17; (with_reducible refine (zas.calls k _ _ l0 t244 t245 _ ?side1 ?side2 A9.out).mono ?_); (case side1 => repeat (first | exact (Kd.zaF HR0.out HB.out) | (with_reducible refine Kd.zaM ?_ _) | (with_reducible refine Kd.zaN ?_ _) | (with_reducible refine Kd.zaW ?_))); (case side2 => exact HC0.out); rintro e w14 ⟨rfl, hb⟩; have n0_ := zaa.mk (zaq (by repeat (first | (with_reducible first | exact HB.out | apply zad | apply zac | apply zae) | exact HB.out)) hb); clear HB; have HB := n0_; clear n0_; (try clear hb); (try clear hb2); (try clear hk); (try clear hi)))
     go_meet
     case rel => exact ⟨_, (true), (by first | rfl | (simp; done) | (simp [*]; done)), H', ⟨by first | omega | exact Nat.le_refl _⟩, ⟨by repeat (first | (with_reducible first | exact HB.out | apply zad | apply zac | apply zae) | exact HB.out)⟩⟩
 case rest =>
  clear HC4
  try clear c1
  try clear p2
  try clear c3
  try clear c6
  try clear c7
  try clear c10
  try clear c10b0
  try clear c10b1
  try clear c14
  obtain ⟨kq, x31_3, rfl, HA, HJ3, HB⟩ := hcut
  cases kq with
  | zero => exact absurd HA.out (by simp [chaperonlaw06_SubtypeHas.j0])
  | succ kj3 =>
   have H := HA.out
   clear HA
   simp only [chaperonlaw06_SubtypeHas.j0] at H
   by_cases c15 : x31_3 = true
   ·
    subst c15
    have H1 : (some t242) = some r := by rw [if_pos rfl] at H; exact H
    clear H
    have H := H1
    clear H1
    as_aux_lemma =>
     obtain rfl := Option.some.inj H
     go_wp2
     go_ret
     exact ⟨by first | rfl | (simp [zaS, zaT] <;> rfl) | (simp [*, zaS, zaT] <;> rfl), by repeat (first | (with_reducible first | exact HB.out | apply zad | apply zac | apply zae) | exact HB.out)⟩
   ·
    replace c15 := Bool.eq_false_iff.mpr c15
    subst c15
    have H1 : ((zbq.f a1 (l0.length : Int)).bind fun t246 => (if 0 ≤ t246 then (if t246 < (l0.length : Int) then ((zaj.f kj3 l0 ((zai l0 t246).f0)).bind fun t248 => (chaperonlaw06_SubtypeHas.l0 kj3 l0 t242 ((zai l0 t246).f0) t248 0 0)) else (none)) else (none))) = some r := by rw [if_neg (show ¬ (false = true) by decide)] at H; exact H
    clear H
    have H := H1
    clear H1
    replace H := Option.bind_eq_some_iff.mp H
    obtain ⟨t246, A160, H⟩ := H
    replace H : (if 0 ≤ t246 then (if t246 < (l0.length : Int) then ((zaj.f kj3 l0 ((zai l0 t246).f0)).bind fun t248 => (chaperonlaw06_SubtypeHas.l0 kj3 l0 t242 ((zai l0 t246).f0) t248 0 0)) else (none)) else (none)) = some r := H
    have A16 := zaa.mk A160
    clear A160
    by_cases c17 : 0 ≤ t246
    ·
     rw [if_pos c17] at H
     have c17b0 : decide (0 ≤ t246) = true := decide_eq_true c17
     clear c17
     by_cases c18 : t246 < (l0.length : Int)
     ·
      rw [if_pos c18] at H
      have c18b0 : decide (t246 < (l0.length : Int)) = true := decide_eq_true c18
      clear c18
      replace H := Option.bind_eq_some_iff.mp H
      obtain ⟨t248, A190, H⟩ := H
      replace H : (chaperonlaw06_SubtypeHas.l0 kj3 l0 t242 ((zai l0 t246).f0) t248 0 0) = some r := H
      have A19 := zaa.mk A190
      clear A190
      have H' := zaa.mk H
      clear H
      go_wp2_with (first | ((with_reducible refine zaO (f := 16) rfl ?_); refine zbj (some 37) rfl rfl Tryd.func16 k9 rfl #[.int .i64 a1, .int .i64 (l0.length : Int)] rfl m9 ?_; (with_reducible refine (zbq.calls a1 (l0.length : Int) t246 _ A16.out).mono ?_); rintro e w' ⟨rfl, ⟨nd, rfl⟩⟩; refine ⟨_, rfl, ?_⟩; have p247 : 0 ≤ (t246 : Int) := of_decide_eq_true (by first | (with_reducible assumption) | assumption); have q247 : t246 < (l0.length : Int) := of_decide_eq_true (by first | (with_reducible assumption) | assumption); obtain ⟨ad247, A247_2, c247_2, A247_3, c247_3, e247, hx247_0, hx247_1, hx247_2, hx247_3, hl247_2, hi247_2, hl247_3, hi247_3⟩ := zbF HR0.out t246 p247 q247; cases e247; replace hx247_0 := (HB.out.cell (World.block_lt_of_cell? w _ hx247_0)).trans hx247_0; replace hx247_1 := (HB.out.cell (World.block_lt_of_cell? w _ hx247_1)).trans hx247_1; replace hx247_2 := (HB.out.cell (World.block_lt_of_cell? w _ hx247_2)).trans hx247_2; replace hx247_3 := (HB.out.cell (World.block_lt_of_cell? w _ hx247_3)).trans hx247_3; have HR247_2 := zaa.mk hi247_2; have HC247_2 := zaa.mk hl247_2; clear hi247_2 hl247_2; have HR247_3 := zaa.mk hi247_3; have HC247_3 := zaa.mk hl247_3; clear hi247_3 hl247_3; replace p247 := eq_true p247; replace q247 := eq_true q247) | ((with_reducible refine zaO (f := 12) rfl ?_); refine zbj (some 43) rfl rfl Tryd.func12 k9 rfl #[.slice (some ad247) l0.length c0, .string ((zai l0 t246).f0)] rfl m9 ?_; (with_reducible refine (zaj.calls kj3 _ _ l0 ((zai l0 t246).f0) t248 _ ?side1 ?side2 A19.out).mono ?_); (case side1 => repeat (first | exact (Kd.zaF HR0.out (by repeat (first | (with_reducible first | exact HB.out | apply zad | apply zac | apply zae) | exact HB.out))) | (with_reducible refine Kd.zaM ?_ _) | (with_reducible refine Kd.zaN ?_ _) | (with_reducible refine Kd.zaW ?_))); (case side2 => exact HC0.out); rintro e w20 ⟨v249, rfl, ho0, hb⟩; refine ⟨_, rfl, ?_⟩; have n0_ := zaa.mk (Kd.zbk ho0 (zaL (by repeat (first | (with_reducible first | exact HB.out | apply zad | apply zac | apply zae) | exact HB.out)))); have n1_ := zaa.mk (zaq (by repeat (first | (with_reducible first | exact HB.out | apply zad | apply zac | apply zae) | exact HB.out)) hb); clear HB; have HO250 := n0_; have HB := n1_; clear n0_ n1_; (try clear hb); (try clear hb2); (try clear hk); (try clear hi); (try clear ho0)))
      go_loopg [8, 9] kj3 (fun kq v8 v9 w' => ∃ (x8_2 : Int) (x9_2 : Int), v8 = .int .i64 x8_2 ∧ v9 = .int .i64 x9_2 ∧ zaa (chaperonlaw06_SubtypeHas.l0 kq l0 t242 ((zai l0 t246).f0) t248 x8_2 x9_2 = some r) ∧ zaa (kq ≤ kj3) ∧ zaa (Kd.R Kd.string 9 w' w.heap.size (fun _ => True) v249 t248) ∧ zaa (Below w.heap.size w w'))
      case atStart => exact ⟨(0), (0), (by first | rfl | (simp; done) | (simp [*]; done)), (by first | rfl | (simp; done) | (simp [*]; done)), H', ⟨Nat.le_refl _⟩, ⟨by (with_reducible repeat (first | apply Kd.zax | apply Kd.zay | apply Kd.zaC)); exact HO250.out⟩, ⟨by repeat (first | (with_reducible first | exact HB.out | apply zad | apply zac | apply zae) | exact HB.out)⟩⟩
      case round =>
       clear H'
       try clear c1
       try clear c2
       try clear p2
       try clear q2
       try clear hx2
       try clear c3
       try clear c6
       try clear c7
       try clear c10
       try clear c10b0
       try clear c10b1
       try clear c12
       try clear c14
       try clear c15
       try clear c16
       try clear c17
       try clear c17b0
       try clear c18
       try clear c18b0
       try clear hx247_0
       try clear hx247_1
       try clear hx247_2
       try clear hx247_3
       try clear p2
       try clear p247
       try clear q247
       obtain ⟨x8_2, x9_2, rfl, rfl, HA, HK2, HO_7, HB⟩ := hrel
       cases gk with
       | zero => exact absurd HA.out (by simp [chaperonlaw06_SubtypeHas.l0])
       | succ k2 =>
        have H := HA.out
        clear HA
        simp only [chaperonlaw06_SubtypeHas.l0] at H
        by_cases c21 : x9_2 < (l0.length : Int)
        ·
         rw [if_pos c21] at H
         have c21b0 : decide (x9_2 < (l0.length : Int)) = true := decide_eq_true c21
         clear c21
         by_cases c22 : 0 ≤ x9_2
         ·
          rw [if_pos c22] at H
          have c22b0 : decide (0 ≤ x9_2) = true := decide_eq_true c22
          clear c22
          replace H := Option.bind_eq_some_iff.mp H
          obtain ⟨t253, A230, H⟩ := H
          replace H : (if t253 = true then (if x8_2 ≥ (t248.length : Int) then (none) else (if 0 ≤ x8_2 then (if x8_2 < (t248.length : Int) then (chaperonlaw06_SubtypeHas.j2 k2 l0 t242 ((zai l0 t246).f0) t248 x8_2 x9_2 ((rdOf ByteArray.empty t248 x8_2).toList != ((zai l0 x9_2).f0).toList)) else (none)) else (none))) else (chaperonlaw06_SubtypeHas.l0 k2 l0 t242 ((zai l0 t246).f0) t248 x8_2 (wrap64 (x9_2 + 1)))) = some r := H
          have A23 := zaa.mk A230
          clear A230
          by_cases c24 : t253 = true
          ·
           subst c24
           have H1 : (if x8_2 ≥ (t248.length : Int) then (none) else (if 0 ≤ x8_2 then (if x8_2 < (t248.length : Int) then (chaperonlaw06_SubtypeHas.j2 k2 l0 t242 ((zai l0 t246).f0) t248 x8_2 x9_2 ((rdOf ByteArray.empty t248 x8_2).toList != ((zai l0 x9_2).f0).toList)) else (none)) else (none))) = some r := by rw [if_pos rfl] at H; exact H
           clear H
           have H := H1
           clear H1
           have HC25 := zaa.mk H
           clear H
           have p252 : 0 ≤ (x9_2 : Int) := of_decide_eq_true (by first | (with_reducible assumption) | assumption)
           have q252 : x9_2 < (l0.length : Int) := of_decide_eq_true (by first | (with_reducible assumption) | assumption)
           obtain ⟨ad252, A252_2, c252_2, A252_3, c252_3, e252, hx252_0, hx252_1, hx252_2, hx252_3, hl252_2, hi252_2, hl252_3, hi252_3⟩ := zbF HR0.out x9_2 p252 q252
           obtain rfl : ad247 = ad252 := (by injection e252)
           replace hx252_0 := (HB.out.cell (World.block_lt_of_cell? w _ hx252_0)).trans hx252_0
           replace hx252_1 := (HB.out.cell (World.block_lt_of_cell? w _ hx252_1)).trans hx252_1
           replace hx252_2 := (HB.out.cell (World.block_lt_of_cell? w _ hx252_2)).trans hx252_2
           replace hx252_3 := (HB.out.cell (World.block_lt_of_cell? w _ hx252_3)).trans hx252_3
           have HR252_2 := zaa.mk hi252_2
           have HC252_2 := zaa.mk hl252_2
           clear hi252_2 hl252_2
           have HR252_3 := zaa.mk hi252_3
           have HC252_3 := zaa.mk hl252_3
           clear hi252_3 hl252_3
           replace p252 := eq_true p252
           replace q252 := eq_true q252
           go_upto_region 11 with (first | ((with_reducible refine zaO (f := 8) rfl ?_); refine zbj (some 57) rfl rfl Tryd.func8 k9 rfl #[.slice (some ad247) l0.length c0, .string ((zai l0 x9_2).f0), .string ((zai l0 t246).f0)] rfl m9 ?_; (with_reducible refine (zan.calls k2 _ _ l0 ((zai l0 x9_2).f0) ((zai l0 t246).f0) true _ ?side1 ?side2 A23.out).mono ?_); (case side1 => repeat (first | exact (Kd.zaF HR0.out HB.out) | (with_reducible refine Kd.zaM ?_ _) | (with_reducible refine Kd.zaN ?_ _) | (with_reducible refine Kd.zaW ?_))); (case side2 => exact HC0.out); rintro e w26 ⟨rfl, hb⟩; refine ⟨_, rfl, ?_⟩; have n0_ := zaa.mk (Kd.zaG (by (with_reducible repeat (first | apply Kd.zax | apply Kd.zay | apply Kd.zaC)); exact HO_7.out) hb); have n1_ := zaa.mk (zaq (by repeat (first | (with_reducible first | exact HB.out | apply zad | apply zac | apply zae) | exact HB.out)) hb); clear HO_7; clear HB; have HO_7 := n0_; have HB := n1_; clear n0_ n1_; (try clear hb); (try clear hb2); (try clear hk); (try clear hi)))
           (try simp only [Act.put, List.setIfInBounds_toArray, List.set_cons_zero, List.set_cons_succ])
           go_cut [74] (fun v74 wc => ∃ (kq : Nat) (x74_24 : Bool), v74 = .bool x74_24 ∧ zaa (chaperonlaw06_SubtypeHas.j2 kq l0 t242 ((zai l0 t246).f0) t248 x8_2 x9_2 x74_24 = some r) ∧ zaa (kq ≤ k2) ∧ zaa (Kd.R Kd.string 9 wc w.heap.size (fun _ => True) v249 t248) ∧ zaa (Below w.heap.size w wc))
           case first =>
            have H := HC25.out
            clear HC25
            by_cases c27 : x8_2 ≥ (t248.length : Int)
            ·
             rw [if_pos c27] at H
             have c27b0 : decide ((t248.length : Int) ≤ x8_2) = true := decide_eq_true c27
             clear c27
             (first | rw [c27b0] | (simp only [i64_w, i32_w]; rw [c27b0]) | skip)
             exact absurd H s9
            ·
             rw [if_neg c27] at H
             have c27b0 : decide ((t248.length : Int) ≤ x8_2) = false := decide_eq_false c27
             clear c27
             (first | rw [c27b0] | (simp only [i64_w, i32_w]; rw [c27b0]) | skip)
             by_cases c28 : 0 ≤ x8_2
             ·
              rw [if_pos c28] at H
              have c28b0 : decide (0 ≤ x8_2) = true := decide_eq_true c28
              clear c28
              by_cases c29 : x8_2 < (t248.length : Int)
              ·
               rw [if_pos c29] at H
               have c29b0 : decide (x8_2 < (t248.length : Int)) = true := decide_eq_true c29
               clear c29
               as_aux_lemma =>
                have H' := zaa.mk H
                clear H
                try go_wp2
                have n0_ := zaa.mk (Kd.zaC HO_7.out)
                have n1_ := zaa.mk (zae HB.out)
                clear HO_7
                clear HB
                have HO_7 := n0_
                have HB := n1_
                clear n0_ n1_
                obtain ⟨Ao31, co31, eo31⟩ := Kd.zaZ HO_7.out
                (first | subst eo31 | (injection eo31 with f1_ f2_ f3_; have f4_ := f1_.symm; have f5_ := f3_.symm; clear f1_ f2_ f3_; subst f4_; subst f5_))
                have p254 : 0 ≤ (x8_2 : Int) := of_decide_eq_true (by first | (with_reducible assumption) | assumption)
                have q254 : x8_2 < (t248.length : Int) := of_decide_eq_true (by first | (with_reducible assumption) | assumption)
                obtain ⟨ad254, e254, hx254_0⟩ := Kd.zcb (Kd.zaw HO_7.out).2.2 x8_2 p254 q254
                cases e254
                replace p254 := eq_true p254
                replace q254 := eq_true q254
                have p255 : 0 ≤ (x9_2 : Int) := of_decide_eq_true (by first | (with_reducible assumption) | assumption)
                have q255 : x9_2 < (l0.length : Int) := of_decide_eq_true (by first | (with_reducible assumption) | assumption)
                obtain ⟨ad255, A255_2, c255_2, A255_3, c255_3, e255, hx255_0, hx255_1, hx255_2, hx255_3, hl255_2, hi255_2, hl255_3, hi255_3⟩ := zbF HR0.out x9_2 p255 q255
                have hw255_3 := hx255_3
                have hw255_2 := hx255_2
                have hw255_1 := hx255_1
                have hw255_0 := hx255_0
                obtain rfl : ad247 = ad255 := (by injection e255)
                replace hx255_0 := (HB.out.cell (World.block_lt_of_cell? w _ hx255_0)).trans hx255_0
                replace hx255_1 := (HB.out.cell (World.block_lt_of_cell? w _ hx255_1)).trans hx255_1
                replace hx255_2 := (HB.out.cell (World.block_lt_of_cell? w _ hx255_2)).trans hx255_2
                replace hx255_3 := (HB.out.cell (World.block_lt_of_cell? w _ hx255_3)).trans hx255_3
                have HR255_2 := zaa.mk hi255_2
                have HC255_2 := zaa.mk hl255_2
                clear hi255_2 hl255_2
                have HR255_3 := zaa.mk hi255_3
                have HC255_3 := zaa.mk hl255_3
                clear hi255_3 hl255_3
                replace p255 := eq_true p255
                replace q255 := eq_true q255
                refine zgN (n := 16) (S := fun w' => w'.cell? (ad254.add (x8_2).toNat) = some (.string (rdOf ByteArray.empty t248 x8_2)) ∧ w'.cell? (ad247.add ((x9_2).toNat * 4)) = some (.string ((zai l0 x9_2).f0)) ∧ w'.cell? ⟨(ad247.add ((x9_2).toNat * 4)).block, (ad247.add ((x9_2).toNat * 4)).off + 1, none⟩ = some (.string ((zai l0 x9_2).f1)) ∧ w'.cell? ⟨(ad247.add ((x9_2).toNat * 4)).block, (ad247.add ((x9_2).toNat * 4)).off + 2, none⟩ = some (.slice A255_2 ((zai l0 x9_2).f2).length c255_2) ∧ w'.cell? ⟨(ad247.add ((x9_2).toNat * 4)).block, (ad247.add ((x9_2).toNat * 4)).off + 3, none⟩ = some (.slice A255_3 ((zai l0 x9_2).f3).length c255_3)) (ds := []) #[false, false, false, false, false, false, false, false, false, false, false, false, false, false, false, false] k9 rfl rfl ⟨hx254_0, ((HB.out.cell (World.block_lt_of_cell? w _ hw255_0)).trans hw255_0), ((HB.out.cell (World.block_lt_of_cell? w _ hw255_1)).trans hw255_1), ((HB.out.cell (World.block_lt_of_cell? w _ hw255_2)).trans hw255_2), ((HB.out.cell (World.block_lt_of_cell? w _ hw255_3)).trans hw255_3)⟩ (fun hHeld => ?_); refine zdR chaperonlaw06_SubtypeHas.tab11 chaperonlaw06_SubtypeHas.bits11 (fun HT_ HW_ => ?_)
                generalize w26.drew = w30 at HO_7 HB HR255_2 HR255_3 hx254_0 hx255_0 hx255_1 hx255_2 hx255_3 hHeld ⊢
                refine pure_ (i := 0) (N := some 59) (v := ?_) (a' := ?_) #[true, false, false, false, false, false, false, false, false, false, false, false, false, false, false, false] rfl rfl (zbc HT_.out k9) (fun _ _ _ h => h) (Or.inl ⟨by rfl, ?_⟩) ?_ ?_
                rotate_left
                ·
                 intro w'
                 go_simp
                 with_reducible rfl
                rotate_left
                ·
                 simp only [Act.put, List.setIfInBounds_toArray, List.set_cons_zero, List.set_cons_succ, i64_w, i32_w]
                 rfl
                refine pure_ (i := 1) (N := some 60) (v := ?_) (a' := ?_) #[true, true, false, false, false, false, false, false, false, false, false, false, false, false, false, false] rfl rfl (zbc HT_.out k9) (fun _ _ _ h => h) (Or.inl ⟨by rfl, ?_⟩) ?_ ?_
                rotate_left
                ·
                 intro w'
                 go_simp
                 with_reducible rfl
                rotate_left
                ·
                 simp only [Act.put, List.setIfInBounds_toArray, List.set_cons_zero, List.set_cons_succ, i64_w, i32_w]
                 rfl
                refine pure_ (i := 2) (N := some 61) (v := ?_) (a' := ?_) #[true, true, true, false, false, false, false, false, false, false, false, false, false, false, false, false] rfl rfl (zbc HT_.out k9) (fun _ _ _ h => h) (Or.inl ⟨by rfl, ?_⟩) ?_ ?_
                rotate_left
                ·
                 intro w'
                 go_simp
                 with_reducible rfl
                rotate_left
                ·
                 simp only [Act.put, List.setIfInBounds_toArray, List.set_cons_zero, List.set_cons_succ, i64_w, i32_w]
                 rfl
                refine pure_ (i := 3) (N := some 62) (v := ?_) (a' := ?_) #[true, true, true, true, false, false, false, false, false, false, false, false, false, false, false, false] rfl rfl (zbc HT_.out k9) (fun _ _ _ h => h) (Or.inl ⟨by rfl, ?_⟩) ?_ ?_
                rotate_left
                ·
                 intro w'
                 go_simp
                 with_reducible rfl
                rotate_left
                ·
                 simp only [Act.put, List.setIfInBounds_toArray, List.set_cons_zero, List.set_cons_succ, i64_w, i32_w]
                 rfl
                refine pure_ (i := 4) (N := some 63) (v := ?_) (a' := ?_) #[true, true, true, true, true, false, false, false, false, false, false, false, false, false, false, false] rfl rfl (zbc HT_.out k9) (fun _ _ _ h => h) (Or.inl ⟨by rfl, ?_⟩) ?_ ?_
                rotate_left
                ·
                 intro w'
                 go_simp
                 with_reducible rfl
                rotate_left
                ·
                 simp only [Act.put, List.setIfInBounds_toArray, List.set_cons_zero, List.set_cons_succ, i64_w, i32_w]
                 rfl
                refine pure_ (i := 5) (N := some 64) (v := ?_) (a' := ?_) #[true, true, true, true, true, true, false, false, false, false, false, false, false, false, false, false] rfl rfl (zbc HT_.out k9) (fun _ _ _ h => h) (Or.inl ⟨by rfl, ?_⟩) ?_ ?_
                rotate_left
                ·
                 intro w'
                 go_simp
                 with_reducible rfl
                rotate_left
                ·
                 simp only [Act.put, List.setIfInBounds_toArray, List.set_cons_zero, List.set_cons_succ, i64_w, i32_w]
                 rfl
                refine pure_ (i := 6) (N := some 65) (v := ?_) (a' := ?_) #[true, true, true, true, true, true, true, false, false, false, false, false, false, false, false, false] rfl rfl (zbc HT_.out k9) (fun _ _ _ h => h) (Or.inl ⟨by rfl, ?_⟩) ?_ ?_
                rotate_left
                ·
                 intro w'
                 go_simp
                 with_reducible rfl
                rotate_left
                ·
                 simp only [Act.put, List.setIfInBounds_toArray, List.set_cons_zero, List.set_cons_succ, i64_w, i32_w]
                 rfl
                refine pure_ (i := 7) (N := some 66) (v := ?_) (a' := ?_) #[true, true, true, true, true, true, true, true, false, false, false, false, false, false, false, false] rfl rfl (zbc HT_.out k9) (fun _ _ _ h => h) (Or.inl ⟨by rfl, ?_⟩) ?_ ?_
                rotate_left
                ·
                 intro w'
                 go_simp
                 with_reducible rfl
                rotate_left
                ·
                 simp only [Act.put, List.setIfInBounds_toArray, List.set_cons_zero, List.set_cons_succ, i64_w, i32_w]
                 rfl
                refine pure_ (i := 9) (N := some 68) (v := ?_) (a' := ?_) #[true, true, true, true, true, true, true, true, false, true, false, false, false, false, false, false] rfl rfl (zbc HT_.out k9) (fun _ _ _ h => h) (Or.inl ⟨by rfl, ?_⟩) ?_ ?_
                rotate_left
                ·
                 intro w'
                 go_simp
                 with_reducible rfl
                rotate_left
                ·
                 simp only [Act.put, List.setIfInBounds_toArray, List.set_cons_zero, List.set_cons_succ, i64_w, i32_w]
                 rfl
                refine pure_ (i := 10) (N := some 69) (v := ?_) (a' := ?_) #[true, true, true, true, true, true, true, true, false, true, true, false, false, false, false, false] rfl rfl (zbc HT_.out k9) (fun _ _ _ h => h) (Or.inl ⟨by rfl, ?_⟩) ?_ ?_
                rotate_left
                ·
                 intro w'
                 go_simp
                 with_reducible rfl
                rotate_left
                ·
                 simp only [Act.put, List.setIfInBounds_toArray, List.set_cons_zero, List.set_cons_succ, i64_w, i32_w]
                 rfl
                refine pure_ (i := 11) (N := some 70) (v := ?_) (a' := ?_) #[true, true, true, true, true, true, true, true, false, true, true, true, false, false, false, false] rfl rfl (zbc HT_.out k9) (fun _ _ _ h => h) (Or.inl ⟨by rfl, ?_⟩) ?_ ?_
                rotate_left
                ·
                 intro w'
                 go_simp
                 with_reducible rfl
                rotate_left
                ·
                 simp only [Act.put, List.setIfInBounds_toArray, List.set_cons_zero, List.set_cons_succ, i64_w, i32_w]
                 rfl
                refine pure_ (i := 12) (N := some 71) (v := ?_) (a' := ?_) #[true, true, true, true, true, true, true, true, false, true, true, true, true, false, false, false] rfl rfl (zbc HT_.out k9) (fun _ _ _ h => h) (Or.inl ⟨by rfl, ?_⟩) ?_ ?_
                rotate_left
                ·
                 intro w'
                 go_simp
                 with_reducible rfl
                rotate_left
                ·
                 simp only [Act.put, List.setIfInBounds_toArray, List.set_cons_zero, List.set_cons_succ, i64_w, i32_w]
                 rfl
                refine take_ (i := 8) (N := some 67) (v := ?_) (a' := ?_) #[true, true, true, true, true, true, true, true, true, true, true, true, true, false, false, false] rfl rfl (zcS HT_.out HW_.out k9) (fun _ _ _ h => h) (Or.inl ⟨by rfl, ?_⟩) hHeld ?_ ?_
                rotate_left
                ·
                 rintro w' ⟨s0, s1, s2, s3, s4⟩
                 go_simp
                 with_reducible rfl
                rotate_left
                ·
                 simp only [Act.put, List.setIfInBounds_toArray, List.set_cons_zero, List.set_cons_succ, i64_w, i32_w]
                 rfl
                refine take_ (i := 13) (N := some 72) (v := ?_) (a' := ?_) #[true, true, true, true, true, true, true, true, true, true, true, true, true, true, false, false] rfl rfl (zcS HT_.out HW_.out k9) (fun _ _ _ h => h) (Or.inl ⟨by rfl, ?_⟩) hHeld ?_ ?_
                rotate_left
                ·
                 rintro w' ⟨s0, s1, s2, s3, s4⟩
                 go_simp
                 with_reducible rfl
                rotate_left
                ·
                 simp only [Act.put, List.setIfInBounds_toArray, List.set_cons_zero, List.set_cons_succ, i64_w, i32_w]
                 rfl
                refine pure_ (i := 14) (N := some 73) (v := ?_) (a' := ?_) #[true, true, true, true, true, true, true, true, true, true, true, true, true, true, true, false] rfl rfl (zbc HT_.out k9) (fun _ _ _ h => h) (Or.inl ⟨by rfl, ?_⟩) ?_ ?_
                rotate_left
                ·
                 intro w'
                 go_simp
                 with_reducible rfl
                rotate_left
                ·
                 simp only [Act.put, List.setIfInBounds_toArray, List.set_cons_zero, List.set_cons_succ, i64_w, i32_w]
                 rfl
                refine pure_ (i := 15) (N := some 74) (v := ?_) (a' := ?_) #[true, true, true, true, true, true, true, true, true, true, true, true, true, true, true, true] rfl rfl (zbc HT_.out k9) (fun _ _ _ h => h) (Or.inl ⟨by rfl, ?_⟩) ?_ ?_
                rotate_left
                ·
                 intro w'
                 go_simp
                 with_reducible rfl
                rotate_left
                ·
                 simp only [Act.put, List.setIfInBounds_toArray, List.set_cons_zero, List.set_cons_succ, i64_w, i32_w]
                 rfl
                refine done_ (zfI HT_.out k9) ?_
                try go_wp2
                go_meet
                case rel => exact ⟨_, (((rdOf ByteArray.empty t248 x8_2).toList != ((zai l0 x9_2).f0).toList)), (by first | rfl | (simp; done) | (simp [*]; done)), H', ⟨by have := HJ3.out; have := HK2.out; first | omega | exact Nat.le_refl _⟩, ⟨by (with_reducible repeat (first | apply Kd.zax | apply Kd.zay | apply Kd.zaC)); exact HO_7.out⟩, ⟨by repeat (first | (with_reducible first | exact HB.out | apply zad | apply zac | apply zae) | exact HB.out)⟩⟩
              ·
               rw [if_neg c29] at H
               exact absurd H s9
             ·
              rw [if_neg c28] at H
              exact absurd H s9
           case rest =>
            clear HC25
            try clear c1
            try clear c2
            try clear p2
            try clear q2
            try clear hx2
            try clear c3
            try clear c6
            try clear p6
            try clear c7
            try clear c8
            try clear c10
            try clear c10b0
            try clear c10b1
            try clear c12
            try clear c14
            try clear c15
            try clear c16
            try clear c17
            try clear c17b0
            try clear c18
            try clear c18b0
            try clear c21
            try clear c21b0
            try clear c22
            try clear c22b0
            try clear c24
            try clear p24
            try clear q24
            try clear hx24
            try clear c25
            try clear p25
            try clear q25
            try clear hx25
            try clear c27
            try clear c27b0
            try clear c28
            try clear c28b0
            try clear c29
            try clear c29b0
            try clear hx247_0
            try clear hx247_1
            try clear hx247_2
            try clear hx247_3
            try clear hx252_0
            try clear hx252_1
            try clear hx252_2
            try clear hx252_3
            try clear hx254_0
            try clear hx255_0
            try clear hx255_1
            try clear hx255_2
            try clear hx255_3
            try clear p2
            try clear p247
            try clear p252
            try clear p254
            try clear p255
            try clear q2
            try clear q247
            try clear q252
            try clear q254
            try clear q255
            obtain ⟨kq, x74_24, rfl, HA, HJ24, HO_7, HB⟩ := hcut
            cases kq with
            | zero => exact absurd HA.out (by simp [chaperonlaw06_SubtypeHas.j2])
            | succ kj24 =>
             have H := HA.out
             clear HA
             simp only [chaperonlaw06_SubtypeHas.j2] at H
             by_cases c32 : x74_24 = true
             ·
              subst c32
              have H1 : (none) = some r := by rw [if_pos rfl] at H; exact H
              clear H
              have H := H1
              clear H1
              exact absurd H s9
             ·
              replace c32 := Bool.eq_false_iff.mpr c32
              subst c32
              have H1 : ((zar.f kj24 l0 ((zai l0 t246).f0)).bind fun t256 => (chaperonlaw06_SubtypeHas.l1 kj24 l0 t242 ((zai l0 t246).f0) t248 (wrap64 (x8_2 + 1)) x9_2 t256 0)) = some r := by rw [if_neg (show ¬ (false = true) by decide)] at H; exact H
              clear H
              have H := H1
              clear H1
              replace H := Option.bind_eq_some_iff.mp H
              obtain ⟨t256, A330, H⟩ := H
              replace H : (chaperonlaw06_SubtypeHas.l1 kj24 l0 t242 ((zai l0 t246).f0) t248 (wrap64 (x8_2 + 1)) x9_2 t256 0) = some r := H
              have A33 := zaa.mk A330
              clear A330
              have H' := zaa.mk H
              clear H
              go_wp2_with (first | ((with_reducible refine zaO (f := 19) rfl ?_); refine zbj (some 79) rfl rfl Tryd.func19 k9 rfl #[.slice (some ad247) l0.length c0, .string ((zai l0 t246).f0)] rfl m9 ?_; (with_reducible refine (zar.calls kj24 _ _ l0 ((zai l0 t246).f0) t256 _ ?side1 ?side2 A33.out).mono ?_); (case side1 => repeat (first | exact (Kd.zaF HR0.out HB.out) | (with_reducible refine Kd.zaM ?_ _) | (with_reducible refine Kd.zaN ?_ _) | (with_reducible refine Kd.zaW ?_))); (case side2 => exact HC0.out); rintro e w34 ⟨v257, rfl, ho0, hb⟩; refine ⟨_, rfl, ?_⟩; have n0_ := zaa.mk (Kd.zaG (by (with_reducible repeat (first | apply Kd.zax | apply Kd.zay | apply Kd.zaC)); exact HO_7.out) hb); have n1_ := zaa.mk (Kd.zbk ho0 (zaL (by repeat (first | (with_reducible first | exact HB.out | apply zad | apply zac | apply zae) | exact HB.out)))); have n2_ := zaa.mk (zaq (by repeat (first | (with_reducible first | exact HB.out | apply zad | apply zac | apply zae) | exact HB.out)) hb); clear HO_7; clear HB; have HO_7 := n0_; have HO258 := n1_; have HB := n2_; clear n0_ n1_ n2_; (try clear hb); (try clear hb2); (try clear hk); (try clear hi); (try clear ho0)))
              go_loopg [11] kj24 (fun kq v11 w' => ∃ (x11_4 : Int), v11 = .int .i64 x11_4 ∧ zaa (chaperonlaw06_SubtypeHas.l1 kq l0 t242 ((zai l0 t246).f0) t248 (wrap64 (x8_2 + 1)) x9_2 t256 x11_4 = some r) ∧ zaa (kq ≤ kj24) ∧ zaa (Kd.R Kd.string 9 w' w.heap.size (fun _ => True) v249 t248) ∧ zaa (Kd.R k50 50 w' w.heap.size (fun _ => True) v257 t256) ∧ zaa (Below w.heap.size w w'))
              case atStart => exact ⟨(0), (by first | rfl | (simp; done) | (simp [*]; done)), H', ⟨Nat.le_refl _⟩, ⟨by (with_reducible repeat (first | apply Kd.zax | apply Kd.zay | apply Kd.zaC)); exact HO_7.out⟩, ⟨by (with_reducible repeat (first | apply Kd.zax | apply Kd.zay | apply Kd.zaC)); exact HO258.out⟩, ⟨by repeat (first | (with_reducible first | exact HB.out | apply zad | apply zac | apply zae) | exact HB.out)⟩⟩
              case round =>
               clear H'
               try clear c1
               try clear c2
               try clear p2
               try clear q2
               try clear hx2
               try clear c3
               try clear c6
               try clear p6
               try clear c7
               try clear c8
               try clear c10
               try clear c10b0
               try clear c10b1
               try clear c12
               try clear c14
               try clear c15
               try clear c16
               try clear c17
               try clear c17b0
               try clear c18
               try clear c18b0
               try clear c19
               try clear c21
               try clear c21b0
               try clear c22
               try clear c22b0
               try clear c24
               try clear p24
               try clear q24
               try clear hx24
               try clear c25
               try clear p25
               try clear q25
               try clear hx25
               try clear c27
               try clear c27b0
               try clear c28
               try clear c28b0
               try clear c29
               try clear c29b0
               try clear c32
               try clear hx247_0
               try clear hx247_1
               try clear hx247_2
               try clear hx247_3
               try clear hx252_0
               try clear hx252_1
               try clear hx252_2
               try clear hx252_3
               try clear hx254_0
               try clear hx255_0
               try clear hx255_1
               try clear hx255_2
               try clear hx255_3
               try clear p2
               try clear p24
               try clear p247
               try clear p25
               try clear p252
               try clear p254
               try clear p255
               try clear p6
               try clear q2
               try clear q24
               try clear q247
               try clear q25
               try clear q252
               try clear q254
               try clear q255
               obtain ⟨x11_4, rfl, HA, HK4, HO_7, HO_10, HB⟩ := hrel
               cases gk with
               | zero => exact absurd HA.out (by simp [chaperonlaw06_SubtypeHas.l1])
               | succ k4 =>
                have H := HA.out
                clear HA
                simp only [chaperonlaw06_SubtypeHas.l1] at H
                by_cases c35 : x11_4 < (t256.length : Int)
                ·
                 rw [if_pos c35] at H
                 have c35b0 : decide (x11_4 < (t256.length : Int)) = true := decide_eq_true c35
                 clear c35
                 by_cases c36 : 0 ≤ x9_2
                 ·
                  rw [if_pos c36] at H
                  have c36b0 : decide (0 ≤ x9_2) = true := decide_eq_true c36
                  clear c36
                  by_cases c37 : x9_2 < (l0.length : Int)
                  ·
                   rw [if_pos c37] at H
                   have c37b0 : decide (x9_2 < (l0.length : Int)) = true := decide_eq_true c37
                   clear c37
                   by_cases c38 : 0 ≤ x11_4
                   ·
                    rw [if_pos c38] at H
                    have c38b0 : decide (0 ≤ x11_4) = true := decide_eq_true c38
                    clear c38
                    replace H := Option.bind_eq_some_iff.mp H
                    obtain ⟨⟨t261, t262⟩, A390, H⟩ := H
                    replace H : ((zbr.f l0 ((zai l0 t246).f0) ((zbn t256 x11_4).f0)).bind fun bt264 => ((zbr.f l0 ((zai l0 x9_2).f0) ((zbn t256 x11_4).f0)).bind fun bt268 => (if t262 = true then (if t261 = ((zbn t256 x11_4).f1) then (if bt264.1.toList = bt268.1.toList then (chaperonlaw06_SubtypeHas.l1 k4 l0 t242 ((zai l0 t246).f0) t248 (wrap64 (x8_2 + 1)) x9_2 t256 (wrap64 (x11_4 + 1))) else (none)) else (none)) else (none)))) = some r := H
                    have A39 := zaa.mk A390
                    clear A390
                    replace H := Option.bind_eq_some_iff.mp H
                    obtain ⟨⟨t264, t265⟩, A400, H⟩ := H
                    replace H : ((zbr.f l0 ((zai l0 x9_2).f0) ((zbn t256 x11_4).f0)).bind fun bt268 => (if t262 = true then (if t261 = ((zbn t256 x11_4).f1) then (if t264.toList = bt268.1.toList then (chaperonlaw06_SubtypeHas.l1 k4 l0 t242 ((zai l0 t246).f0) t248 (wrap64 (x8_2 + 1)) x9_2 t256 (wrap64 (x11_4 + 1))) else (none)) else (none)) else (none))) = some r := H
                    have A40 := zaa.mk A400
                    clear A400
                    replace H := Option.bind_eq_some_iff.mp H
                    obtain ⟨⟨t268, t269⟩, A410, H⟩ := H
                    replace H : (if t262 = true then (if t261 = ((zbn t256 x11_4).f1) then (if t264.toList = t268.toList then (chaperonlaw06_SubtypeHas.l1 k4 l0 t242 ((zai l0 t246).f0) t248 (wrap64 (x8_2 + 1)) x9_2 t256 (wrap64 (x11_4 + 1))) else (none)) else (none)) else (none)) = some r := H
                    have A41 := zaa.mk A410
                    clear A410
                    by_cases c42 : t262 = true
                    ·
                     subst c42
                     have H1 : (if t261 = ((zbn t256 x11_4).f1) then (if t264.toList = t268.toList then (chaperonlaw06_SubtypeHas.l1 k4 l0 t242 ((zai l0 t246).f0) t248 (wrap64 (x8_2 + 1)) x9_2 t256 (wrap64 (x11_4 + 1))) else (none)) else (none)) = some r := by rw [if_pos rfl] at H; exact H
                     clear H
                     have H := H1
                     clear H1
                     by_cases c43 : t261 = ((zbn t256 x11_4).f1)
                     ·
                      rw [if_pos c43] at H
                      have c43b0 : (t261 == ((zbn t256 x11_4).f1)) = true := beq_iff_eq.mpr c43
                      have c43b1 : (t261 != ((zbn t256 x11_4).f1)) = false := bne_eq_false_iff_eq.mpr c43
                      clear c43
                      by_cases c44 : t264.toList = t268.toList
                      ·
                       rw [if_pos c44] at H
                       have c44b0 : (t264.toList == t268.toList) = true := beq_iff_eq.mpr c44
                       have c44b1 : (t264.toList != t268.toList) = false := bne_eq_false_iff_eq.mpr c44
                       clear c44
                       as_aux_lemma =>
                        have H' := zaa.mk H
                        clear H
                        obtain ⟨Ao45, co45, eo45⟩ := Kd.zaZ HO_10.out
                        subst eo45
                        try go_wp2
                        have n0_ := zaa.mk (Kd.zaC HO_7.out)
                        have n1_ := zaa.mk (Kd.zaC HO_10.out)
                        have n2_ := zaa.mk (zae HB.out)
                        clear HO_7
                        clear HO_10
                        clear HB
                        have HO_7 := n0_
                        have HO_10 := n1_
                        have HB := n2_
                        clear n0_ n1_ n2_
                        have p259 : 0 ≤ (x9_2 : Int) := of_decide_eq_true (by first | (with_reducible assumption) | assumption)
                        have q259 : x9_2 < (l0.length : Int) := of_decide_eq_true (by first | (with_reducible assumption) | assumption)
                        obtain ⟨ad259, A259_2, c259_2, A259_3, c259_3, e259, hx259_0, hx259_1, hx259_2, hx259_3, hl259_2, hi259_2, hl259_3, hi259_3⟩ := zbF HR0.out x9_2 p259 q259
                        have hw259_3 := hx259_3
                        have hw259_2 := hx259_2
                        have hw259_1 := hx259_1
                        have hw259_0 := hx259_0
                        obtain rfl : ad247 = ad259 := (by injection e259)
                        replace hx259_0 := (HB.out.cell (World.block_lt_of_cell? w _ hx259_0)).trans hx259_0
                        replace hx259_1 := (HB.out.cell (World.block_lt_of_cell? w _ hx259_1)).trans hx259_1
                        replace hx259_2 := (HB.out.cell (World.block_lt_of_cell? w _ hx259_2)).trans hx259_2
                        replace hx259_3 := (HB.out.cell (World.block_lt_of_cell? w _ hx259_3)).trans hx259_3
                        have HR259_2 := zaa.mk hi259_2
                        have HC259_2 := zaa.mk hl259_2
                        clear hi259_2 hl259_2
                        have HR259_3 := zaa.mk hi259_3
                        have HC259_3 := zaa.mk hl259_3
                        clear hi259_3 hl259_3
                        replace p259 := eq_true p259
                        replace q259 := eq_true q259
                        have p260 : 0 ≤ (x11_4 : Int) := of_decide_eq_true (by first | (with_reducible assumption) | assumption)
                        have q260 : x11_4 < (t256.length : Int) := of_decide_eq_true (by first | (with_reducible assumption) | assumption)
                        obtain ⟨ad260, e260, hx260_0, hx260_1⟩ := zeC (Kd.zaw HO_10.out).2.2 x11_4 p260 q260
                        cases e260
                        replace p260 := eq_true p260
                        replace q260 := eq_true q260
                        refine zgN (n := 17) (S := fun w' => w'.cell? (ad247.add ((x9_2).toNat * 4)) = some (.string ((zai l0 x9_2).f0)) ∧ w'.cell? ⟨(ad247.add ((x9_2).toNat * 4)).block, (ad247.add ((x9_2).toNat * 4)).off + 1, none⟩ = some (.string ((zai l0 x9_2).f1)) ∧ w'.cell? ⟨(ad247.add ((x9_2).toNat * 4)).block, (ad247.add ((x9_2).toNat * 4)).off + 2, none⟩ = some (.slice A259_2 ((zai l0 x9_2).f2).length c259_2) ∧ w'.cell? ⟨(ad247.add ((x9_2).toNat * 4)).block, (ad247.add ((x9_2).toNat * 4)).off + 3, none⟩ = some (.slice A259_3 ((zai l0 x9_2).f3).length c259_3) ∧ w'.cell? (ad260.add ((x11_4).toNat * 2)) = some (.string ((zbn t256 x11_4).f0)) ∧ w'.cell? ⟨(ad260.add ((x11_4).toNat * 2)).block, (ad260.add ((x11_4).toNat * 2)).off + 1, none⟩ = some (.int .i64 ((zbn t256 x11_4).f1))) (ds := []) #[false, false, false, false, false, false, false, false, false, false, false, false, false, false, false, false, false] k9 rfl rfl ⟨((HB.out.cell (World.block_lt_of_cell? w _ hw259_0)).trans hw259_0), ((HB.out.cell (World.block_lt_of_cell? w _ hw259_1)).trans hw259_1), ((HB.out.cell (World.block_lt_of_cell? w _ hw259_2)).trans hw259_2), ((HB.out.cell (World.block_lt_of_cell? w _ hw259_3)).trans hw259_3), hx260_0, hx260_1⟩ (fun hHeld => ?_); refine zdR chaperonlaw06_SubtypeHas.tab18 chaperonlaw06_SubtypeHas.bits18 (fun HT_ HW_ => ?_)
                        generalize wr.drew = w46 at HO_7 HO_10 HB HR259_2 HR259_3 hx259_0 hx259_1 hx259_2 hx259_3 hx260_0 hx260_1 hHeld ⊢
                        refine pure_ (i := 0) (N := some 87) (v := ?_) (a' := ?_) #[true, false, false, false, false, false, false, false, false, false, false, false, false, false, false, false, false] rfl rfl (zbc HT_.out k9) (fun _ _ _ h => h) (Or.inl ⟨by rfl, ?_⟩) ?_ ?_
                        rotate_left
                        ·
                         intro w'
                         go_simp
                         with_reducible rfl
                        rotate_left
                        ·
                         simp only [Act.put, List.setIfInBounds_toArray, List.set_cons_zero, List.set_cons_succ, i64_w, i32_w]
                         rfl
                        refine pure_ (i := 1) (N := some 88) (v := ?_) (a' := ?_) #[true, true, false, false, false, false, false, false, false, false, false, false, false, false, false, false, false] rfl rfl (zbc HT_.out k9) (fun _ _ _ h => h) (Or.inl ⟨by rfl, ?_⟩) ?_ ?_
                        rotate_left
                        ·
                         intro w'
                         go_simp
                         with_reducible rfl
                        rotate_left
                        ·
                         simp only [Act.put, List.setIfInBounds_toArray, List.set_cons_zero, List.set_cons_succ, i64_w, i32_w]
                         rfl
                        refine pure_ (i := 2) (N := some 89) (v := ?_) (a' := ?_) #[true, true, true, false, false, false, false, false, false, false, false, false, false, false, false, false, false] rfl rfl (zbc HT_.out k9) (fun _ _ _ h => h) (Or.inl ⟨by rfl, ?_⟩) ?_ ?_
                        rotate_left
                        ·
                         intro w'
                         go_simp
                         with_reducible rfl
                        rotate_left
                        ·
                         simp only [Act.put, List.setIfInBounds_toArray, List.set_cons_zero, List.set_cons_succ, i64_w, i32_w]
                         rfl
                        refine pure_ (i := 3) (N := some 90) (v := ?_) (a' := ?_) #[true, true, true, true, false, false, false, false, false, false, false, false, false, false, false, false, false] rfl rfl (zbc HT_.out k9) (fun _ _ _ h => h) (Or.inl ⟨by rfl, ?_⟩) ?_ ?_
                        rotate_left
                        ·
                         intro w'
                         go_simp
                         with_reducible rfl
                        rotate_left
                        ·
                         simp only [Act.put, List.setIfInBounds_toArray, List.set_cons_zero, List.set_cons_succ, i64_w, i32_w]
                         rfl
                        refine pure_ (i := 4) (N := some 91) (v := ?_) (a' := ?_) #[true, true, true, true, true, false, false, false, false, false, false, false, false, false, false, false, false] rfl rfl (zbc HT_.out k9) (fun _ _ _ h => h) (Or.inl ⟨by rfl, ?_⟩) ?_ ?_
                        rotate_left
                        ·
                         intro w'
                         go_simp
                         with_reducible rfl
                        rotate_left
                        ·
                         simp only [Act.put, List.setIfInBounds_toArray, List.set_cons_zero, List.set_cons_succ, i64_w, i32_w]
                         rfl
                        refine pure_ (i := 6) (N := some 93) (v := ?_) (a' := ?_) #[true, true, true, true, true, false, true, false, false, false, false, false, false, false, false, false, false] rfl rfl (zbc HT_.out k9) (fun _ _ _ h => h) (Or.inl ⟨by rfl, ?_⟩) ?_ ?_
                        rotate_left
                        ·
                         intro w'
                         go_simp
                         with_reducible rfl
                        rotate_left
                        ·
                         simp only [Act.put, List.setIfInBounds_toArray, List.set_cons_zero, List.set_cons_succ, i64_w, i32_w]
                         rfl
                        refine pure_ (i := 7) (N := some 94) (v := ?_) (a' := ?_) #[true, true, true, true, true, false, true, true, false, false, false, false, false, false, false, false, false] rfl rfl (zbc HT_.out k9) (fun _ _ _ h => h) (Or.inl ⟨by rfl, ?_⟩) ?_ ?_
                        rotate_left
                        ·
                         intro w'
                         go_simp
                         with_reducible rfl
                        rotate_left
                        ·
                         simp only [Act.put, List.setIfInBounds_toArray, List.set_cons_zero, List.set_cons_succ, i64_w, i32_w]
                         rfl
                        refine pure_ (i := 8) (N := some 95) (v := ?_) (a' := ?_) #[true, true, true, true, true, false, true, true, true, false, false, false, false, false, false, false, false] rfl rfl (zbc HT_.out k9) (fun _ _ _ h => h) (Or.inl ⟨by rfl, ?_⟩) ?_ ?_
                        rotate_left
                        ·
                         intro w'
                         go_simp
                         with_reducible rfl
                        rotate_left
                        ·
                         simp only [Act.put, List.setIfInBounds_toArray, List.set_cons_zero, List.set_cons_succ, i64_w, i32_w]
                         rfl
                        refine pure_ (i := 9) (N := some 96) (v := ?_) (a' := ?_) #[true, true, true, true, true, false, true, true, true, true, false, false, false, false, false, false, false] rfl rfl (zbc HT_.out k9) (fun _ _ _ h => h) (Or.inl ⟨by rfl, ?_⟩) ?_ ?_
                        rotate_left
                        ·
                         intro w'
                         go_simp
                         with_reducible rfl
                        rotate_left
                        ·
                         simp only [Act.put, List.setIfInBounds_toArray, List.set_cons_zero, List.set_cons_succ, i64_w, i32_w]
                         rfl
                        refine take_ (i := 5) (N := some 92) (v := ?_) (a' := ?_) #[true, true, true, true, true, true, true, true, true, true, false, false, false, false, false, false, false] rfl rfl (zcS HT_.out HW_.out k9) (fun _ _ _ h => h) (Or.inl ⟨by rfl, ?_⟩) hHeld ?_ ?_
                        rotate_left
                        ·
                         rintro w' ⟨s0, s1, s2, s3, s4, s5⟩
                         go_simp
                         with_reducible rfl
                        rotate_left
                        ·
                         simp only [Act.put, List.setIfInBounds_toArray, List.set_cons_zero, List.set_cons_succ, i64_w, i32_w]
                         rfl
                        refine take_ (i := 10) (N := some 97) (v := ?_) (a' := ?_) #[true, true, true, true, true, true, true, true, true, true, true, false, false, false, false, false, false] rfl rfl (zcS HT_.out HW_.out k9) (fun _ _ _ h => h) (Or.inl ⟨by rfl, ?_⟩) hHeld ?_ ?_
                        rotate_left
                        ·
                         rintro w' ⟨s0, s1, s2, s3, s4, s5⟩
                         go_simp
                         with_reducible rfl
                        rotate_left
                        ·
                         simp only [Act.put, List.setIfInBounds_toArray, List.set_cons_zero, List.set_cons_succ, i64_w, i32_w]
                         rfl
                        refine one_ (i := 11) (N := some 98) #[true, true, true, true, true, true, true, true, true, true, true, true, false, false, false, false, false] rfl rfl (zh5 HT_.out k9) d9 (fun K hK => ?_)
                        refine goes_ Tryd.func20 k9 rfl #[.slice (some ad247) l0.length c0, .string ((zai l0 x9_2).f0), .string ((zbn t256 x11_4).f0)] (by rfl) rfl rfl m9 ?_
                        with_reducible refine (za3.calls k4 _ _ l0 ((zai l0 x9_2).f0) ((zbn t256 x11_4).f0) t261 true _ ?side1 ?side2 A39.out).mono ?_
                        (case side1 => repeat (first | exact (Kd.zaF HR0.out HB.out) | (with_reducible refine Kd.zaM ?_ _) | (with_reducible refine Kd.zaN ?_ _) | (with_reducible refine Kd.zaW ?_)))
                        (case side2 => exact HC0.out)
                        rintro e w47 ⟨rfl, hb⟩
                        have HS4_ := (hb.cell (World.block_lt_of_cell? _ _ (hHeld.2.2.2.2.1))).trans (hHeld.2.2.2.2.1)
                        have HS5_ := (hb.cell (World.block_lt_of_cell? _ _ (hHeld.2.2.2.2.2))).trans (hHeld.2.2.2.2.2)
                        refine ⟨_, rfl, ?_⟩
                        have n0_ := zaa.mk (Kd.zaG (by (with_reducible repeat (first | apply Kd.zax | apply Kd.zay | apply Kd.zaC)); exact HO_7.out) hb)
                        have n1_ := zaa.mk (Kd.zaG (by (with_reducible repeat (first | apply Kd.zax | apply Kd.zay | apply Kd.zaC)); exact HO_10.out) hb)
                        have n2_ := zaa.mk (zaq (by repeat (first | (with_reducible first | exact HB.out | apply zad | apply zac | apply zae) | exact HB.out)) hb)
                        clear HO_7
                        clear HO_10
                        clear HB
                        have HO_7 := n0_
                        have HO_10 := n1_
                        have HB := n2_
                        clear n0_ n1_ n2_
                        (try clear hb)
                        (try clear hb2)
                        (try clear hk)
                        (try clear hi)
                        refine hK.out _ _ ⟨((HB.out.cell (World.block_lt_of_cell? w _ hw259_0)).trans hw259_0), ((HB.out.cell (World.block_lt_of_cell? w _ hw259_1)).trans hw259_1), ((HB.out.cell (World.block_lt_of_cell? w _ hw259_2)).trans hw259_2), ((HB.out.cell (World.block_lt_of_cell? w _ hw259_3)).trans hw259_3), HS4_, HS5_⟩ (fun hHeld => ?_)
                        clear hK K
                        refine norm_ (a' := ?_) ?_ ?_
                        rotate_left
                        ·
                         show Act.put _ (some 98) _ = _
                         simp only [Act.put, List.setIfInBounds_toArray, List.set_cons_zero, List.set_cons_succ, i64_w, i32_w]
                         rfl
                        refine pure_ (i := 12) (N := some 86) (v := ?_) (a' := ?_) #[true, true, true, true, true, true, true, true, true, true, true, true, true, false, false, false, false] rfl rfl (zbc HT_.out k9) (fun _ _ _ h => h) (Or.inl ⟨by rfl, ?_⟩) ?_ ?_
                        rotate_left
                        ·
                         intro w'
                         go_simp
                         with_reducible rfl
                        rotate_left
                        ·
                         simp only [Act.put, List.setIfInBounds_toArray, List.set_cons_zero, List.set_cons_succ, i64_w, i32_w]
                         rfl
                        refine pure_ (i := 13) (N := some 99) (v := ?_) (a' := ?_) #[true, true, true, true, true, true, true, true, true, true, true, true, true, true, false, false, false] rfl rfl (zbc HT_.out k9) (fun _ _ _ h => h) (Or.inl ⟨by rfl, ?_⟩) ?_ ?_
                        rotate_left
                        ·
                         intro w'
                         go_simp
                         with_reducible rfl
                        rotate_left
                        ·
                         simp only [Act.put, List.setIfInBounds_toArray, List.set_cons_zero, List.set_cons_succ, i64_w, i32_w]
                         rfl
                        refine pure_ (i := 14) (N := some 100) (v := ?_) (a' := ?_) #[true, true, true, true, true, true, true, true, true, true, true, true, true, true, true, false, false] rfl rfl (zbc HT_.out k9) (fun _ _ _ h => h) (Or.inl ⟨by rfl, ?_⟩) ?_ ?_
                        rotate_left
                        ·
                         intro w'
                         go_simp
                         with_reducible rfl
                        rotate_left
                        ·
                         simp only [Act.put, List.setIfInBounds_toArray, List.set_cons_zero, List.set_cons_succ, i64_w, i32_w]
                         rfl
                        refine pure_ (i := 15) (N := some 12) (v := ?_) (a' := ?_) #[true, true, true, true, true, true, true, true, true, true, true, true, true, true, true, true, false] rfl rfl (zbc HT_.out k9) (fun _ _ _ h => h) (Or.inl ⟨by rfl, ?_⟩) ?_ ?_
                        rotate_left
                        ·
                         intro w'
                         go_simp
                         with_reducible rfl
                        rotate_left
                        ·
                         simp only [Act.put, List.setIfInBounds_toArray, List.set_cons_zero, List.set_cons_succ, i64_w, i32_w]
                         rfl
                        refine pure_ (i := 16) (N := some 13) (v := ?_) (a' := ?_) #[true, true, true, true, true, true, true, true, true, true, true, true, true, true, true, true, true] rfl rfl (zbc HT_.out k9) (fun _ _ _ h => h) (Or.inl ⟨by rfl, ?_⟩) ?_ ?_
                        rotate_left
                        ·
                         intro w'
                         go_simp
                         with_reducible rfl
                        rotate_left
                        ·
                         simp only [Act.put, List.setIfInBounds_toArray, List.set_cons_zero, List.set_cons_succ, i64_w, i32_w]
                         rfl
                        refine done_ (zfI HT_.out k9) ?_
                        have p263 : 0 ≤ (x11_4 : Int) := of_decide_eq_true (by first | (with_reducible assumption) | assumption)
                        have q263 : x11_4 < (t256.length : Int) := of_decide_eq_true (by first | (with_reducible assumption) | assumption)
                        obtain ⟨ad263, e263, hx263_0, hx263_1⟩ := zeC (Kd.zaw HO_10.out).2.2 x11_4 p263 q263
                        obtain rfl : ad260 = ad263 := (by injection e263)
                        replace p263 := eq_true p263
                        replace q263 := eq_true q263
                        try go_wp2_with (first | ((with_reducible refine zaO (f := 21) rfl ?_); refine zbj (some 109) rfl rfl Tryd.func21 k9 rfl #[.slice (some ad247) l0.length c0, .string ((zai l0 t246).f0), .string ((zbn t256 x11_4).f0)] rfl m9 ?_; (with_reducible refine (zbr.calls _ _ l0 ((zai l0 t246).f0) ((zbn t256 x11_4).f0) t264 t265 _ ?side1 ?side2 A40.out).mono ?_); (case side1 => repeat (first | exact (Kd.zaF HR0.out HB.out) | (with_reducible refine Kd.zaM ?_ _) | (with_reducible refine Kd.zaN ?_ _) | (with_reducible refine Kd.zaW ?_))); (case side2 => exact HC0.out); rintro e w48 ⟨rfl, hb⟩; refine ⟨_, rfl, ?_⟩; have n0_ := zaa.mk (Kd.zaG (by (with_reducible repeat (first | apply Kd.zax | apply Kd.zay | apply Kd.zaC)); exact HO_7.out) hb); have n1_ := zaa.mk (Kd.zaG (by (with_reducible repeat (first | apply Kd.zax | apply Kd.zay | apply Kd.zaC)); exact HO_10.out) hb); have n2_ := zaa.mk (zaq (by repeat (first | (with_reducible first | exact HB.out | apply zad | apply zac | apply zae) | exact HB.out)) hb); clear HO_7; clear HO_10; clear HB; have HO_7 := n0_; have HO_10 := n1_; have HB := n2_; clear n0_ n1_ n2_; (try clear hb); (try clear hb2); (try clear hk); (try clear hi)))
                        have n0_ := zaa.mk (Kd.zaC HO_7.out)
                        have n1_ := zaa.mk (Kd.zaC HO_10.out)
                        have n2_ := zaa.mk (zae HB.out)
                        clear HO_7
                        clear HO_10
                        clear HB
                        have HO_7 := n0_
                        have HO_10 := n1_
                        have HB := n2_
                        clear n0_ n1_ n2_
                        have p266 : 0 ≤ (x9_2 : Int) := of_decide_eq_true (by first | (with_reducible assumption) | assumption)
                        have q266 : x9_2 < (l0.length : Int) := of_decide_eq_true (by first | (with_reducible assumption) | assumption)
                        obtain ⟨ad266, A266_2, c266_2, A266_3, c266_3, e266, hx266_0, hx266_1, hx266_2, hx266_3, hl266_2, hi266_2, hl266_3, hi266_3⟩ := zbF HR0.out x9_2 p266 q266
                        have hw266_3 := hx266_3
                        have hw266_2 := hx266_2
                        have hw266_1 := hx266_1
                        have hw266_0 := hx266_0
                        obtain rfl : ad247 = ad266 := (by injection e266)
                        replace hx266_0 := (HB.out.cell (World.block_lt_of_cell? w _ hx266_0)).trans hx266_0
                        replace hx266_1 := (HB.out.cell (World.block_lt_of_cell? w _ hx266_1)).trans hx266_1
                        replace hx266_2 := (HB.out.cell (World.block_lt_of_cell? w _ hx266_2)).trans hx266_2
                        replace hx266_3 := (HB.out.cell (World.block_lt_of_cell? w _ hx266_3)).trans hx266_3
                        have HR266_2 := zaa.mk hi266_2
                        have HC266_2 := zaa.mk hl266_2
                        clear hi266_2 hl266_2
                        have HR266_3 := zaa.mk hi266_3
                        have HC266_3 := zaa.mk hl266_3
                        clear hi266_3 hl266_3
                        replace p266 := eq_true p266
                        replace q266 := eq_true q266
                        have p267 : 0 ≤ (x11_4 : Int) := of_decide_eq_true (by first | (with_reducible assumption) | assumption)
                        have q267 : x11_4 < (t256.length : Int) := of_decide_eq_true (by first | (with_reducible assumption) | assumption)
                        obtain ⟨ad267, e267, hx267_0, hx267_1⟩ := zeC (Kd.zaw HO_10.out).2.2 x11_4 p267 q267
                        obtain rfl : ad260 = ad267 := (by injection e267)
                        replace p267 := eq_true p267
                        replace q267 := eq_true q267
                        refine zgN (n := 17) (S := fun w' => w'.cell? (ad247.add ((x9_2).toNat * 4)) = some (.string ((zai l0 x9_2).f0)) ∧ w'.cell? ⟨(ad247.add ((x9_2).toNat * 4)).block, (ad247.add ((x9_2).toNat * 4)).off + 1, none⟩ = some (.string ((zai l0 x9_2).f1)) ∧ w'.cell? ⟨(ad247.add ((x9_2).toNat * 4)).block, (ad247.add ((x9_2).toNat * 4)).off + 2, none⟩ = some (.slice A266_2 ((zai l0 x9_2).f2).length c266_2) ∧ w'.cell? ⟨(ad247.add ((x9_2).toNat * 4)).block, (ad247.add ((x9_2).toNat * 4)).off + 3, none⟩ = some (.slice A266_3 ((zai l0 x9_2).f3).length c266_3) ∧ w'.cell? (ad260.add ((x11_4).toNat * 2)) = some (.string ((zbn t256 x11_4).f0)) ∧ w'.cell? ⟨(ad260.add ((x11_4).toNat * 2)).block, (ad260.add ((x11_4).toNat * 2)).off + 1, none⟩ = some (.int .i64 ((zbn t256 x11_4).f1))) (ds := []) #[false, false, false, false, false, false, false, false, false, false, false, false, false, false, false, false, false] k9 rfl rfl ⟨((HB.out.cell (World.block_lt_of_cell? w _ hw266_0)).trans hw266_0), ((HB.out.cell (World.block_lt_of_cell? w _ hw266_1)).trans hw266_1), ((HB.out.cell (World.block_lt_of_cell? w _ hw266_2)).trans hw266_2), ((HB.out.cell (World.block_lt_of_cell? w _ hw266_3)).trans hw266_3), hx267_0, hx267_1⟩ (fun hHeld => ?_); refine zdR chaperonlaw06_SubtypeHas.tab20 chaperonlaw06_SubtypeHas.bits20 (fun HT_ HW_ => ?_)
                        generalize w48.drew = w49 at HO_7 HO_10 HB HR266_2 HR266_3 hx266_0 hx266_1 hx266_2 hx266_3 hx267_0 hx267_1 hHeld ⊢
                        refine pure_ (i := 0) (N := some 113) (v := ?_) (a' := ?_) #[true, false, false, false, false, false, false, false, false, false, false, false, false, false, false, false, false] rfl rfl (zbc HT_.out k9) (fun _ _ _ h => h) (Or.inl ⟨by rfl, ?_⟩) ?_ ?_
                        rotate_left
                        ·
                         intro w'
                         go_simp
                         with_reducible rfl
                        rotate_left
                        ·
                         simp only [Act.put, List.setIfInBounds_toArray, List.set_cons_zero, List.set_cons_succ, i64_w, i32_w]
                         rfl
                        refine pure_ (i := 1) (N := some 114) (v := ?_) (a' := ?_) #[true, true, false, false, false, false, false, false, false, false, false, false, false, false, false, false, false] rfl rfl (zbc HT_.out k9) (fun _ _ _ h => h) (Or.inl ⟨by rfl, ?_⟩) ?_ ?_
                        rotate_left
                        ·
                         intro w'
                         go_simp
                         with_reducible rfl
                        rotate_left
                        ·
                         simp only [Act.put, List.setIfInBounds_toArray, List.set_cons_zero, List.set_cons_succ, i64_w, i32_w]
                         rfl
                        refine pure_ (i := 2) (N := some 115) (v := ?_) (a' := ?_) #[true, true, true, false, false, false, false, false, false, false, false, false, false, false, false, false, false] rfl rfl (zbc HT_.out k9) (fun _ _ _ h => h) (Or.inl ⟨by rfl, ?_⟩) ?_ ?_
                        rotate_left
                        ·
                         intro w'
                         go_simp
                         with_reducible rfl
                        rotate_left
                        ·
                         simp only [Act.put, List.setIfInBounds_toArray, List.set_cons_zero, List.set_cons_succ, i64_w, i32_w]
                         rfl
                        refine pure_ (i := 3) (N := some 116) (v := ?_) (a' := ?_) #[true, true, true, true, false, false, false, false, false, false, false, false, false, false, false, false, false] rfl rfl (zbc HT_.out k9) (fun _ _ _ h => h) (Or.inl ⟨by rfl, ?_⟩) ?_ ?_
                        rotate_left
                        ·
                         intro w'
                         go_simp
                         with_reducible rfl
                        rotate_left
                        ·
                         simp only [Act.put, List.setIfInBounds_toArray, List.set_cons_zero, List.set_cons_succ, i64_w, i32_w]
                         rfl
                        refine pure_ (i := 4) (N := some 117) (v := ?_) (a' := ?_) #[true, true, true, true, true, false, false, false, false, false, false, false, false, false, false, false, false] rfl rfl (zbc HT_.out k9) (fun _ _ _ h => h) (Or.inl ⟨by rfl, ?_⟩) ?_ ?_
                        rotate_left
                        ·
                         intro w'
                         go_simp
                         with_reducible rfl
                        rotate_left
                        ·
                         simp only [Act.put, List.setIfInBounds_toArray, List.set_cons_zero, List.set_cons_succ, i64_w, i32_w]
                         rfl
                        refine pure_ (i := 6) (N := some 119) (v := ?_) (a' := ?_) #[true, true, true, true, true, false, true, false, false, false, false, false, false, false, false, false, false] rfl rfl (zbc HT_.out k9) (fun _ _ _ h => h) (Or.inl ⟨by rfl, ?_⟩) ?_ ?_
                        rotate_left
                        ·
                         intro w'
                         go_simp
                         with_reducible rfl
                        rotate_left
                        ·
                         simp only [Act.put, List.setIfInBounds_toArray, List.set_cons_zero, List.set_cons_succ, i64_w, i32_w]
                         rfl
                        refine pure_ (i := 7) (N := some 120) (v := ?_) (a' := ?_) #[true, true, true, true, true, false, true, true, false, false, false, false, false, false, false, false, false] rfl rfl (zbc HT_.out k9) (fun _ _ _ h => h) (Or.inl ⟨by rfl, ?_⟩) ?_ ?_
                        rotate_left
                        ·
                         intro w'
                         go_simp
                         with_reducible rfl
                        rotate_left
                        ·
                         simp only [Act.put, List.setIfInBounds_toArray, List.set_cons_zero, List.set_cons_succ, i64_w, i32_w]
                         rfl
                        refine pure_ (i := 8) (N := some 121) (v := ?_) (a' := ?_) #[true, true, true, true, true, false, true, true, true, false, false, false, false, false, false, false, false] rfl rfl (zbc HT_.out k9) (fun _ _ _ h => h) (Or.inl ⟨by rfl, ?_⟩) ?_ ?_
                        rotate_left
                        ·
                         intro w'
                         go_simp
                         with_reducible rfl
                        rotate_left
                        ·
                         simp only [Act.put, List.setIfInBounds_toArray, List.set_cons_zero, List.set_cons_succ, i64_w, i32_w]
                         rfl
                        refine pure_ (i := 9) (N := some 122) (v := ?_) (a' := ?_) #[true, true, true, true, true, false, true, true, true, true, false, false, false, false, false, false, false] rfl rfl (zbc HT_.out k9) (fun _ _ _ h => h) (Or.inl ⟨by rfl, ?_⟩) ?_ ?_
                        rotate_left
                        ·
                         intro w'
                         go_simp
                         with_reducible rfl
                        rotate_left
                        ·
                         simp only [Act.put, List.setIfInBounds_toArray, List.set_cons_zero, List.set_cons_succ, i64_w, i32_w]
                         rfl
                        refine take_ (i := 5) (N := some 118) (v := ?_) (a' := ?_) #[true, true, true, true, true, true, true, true, true, true, false, false, false, false, false, false, false] rfl rfl (zcS HT_.out HW_.out k9) (fun _ _ _ h => h) (Or.inl ⟨by rfl, ?_⟩) hHeld ?_ ?_
                        rotate_left
                        ·
                         rintro w' ⟨s0, s1, s2, s3, s4, s5⟩
                         go_simp
                         with_reducible rfl
                        rotate_left
                        ·
                         simp only [Act.put, List.setIfInBounds_toArray, List.set_cons_zero, List.set_cons_succ, i64_w, i32_w]
                         rfl
                        refine take_ (i := 10) (N := some 123) (v := ?_) (a' := ?_) #[true, true, true, true, true, true, true, true, true, true, true, false, false, false, false, false, false] rfl rfl (zcS HT_.out HW_.out k9) (fun _ _ _ h => h) (Or.inl ⟨by rfl, ?_⟩) hHeld ?_ ?_
                        rotate_left
                        ·
                         rintro w' ⟨s0, s1, s2, s3, s4, s5⟩
                         go_simp
                         with_reducible rfl
                        rotate_left
                        ·
                         simp only [Act.put, List.setIfInBounds_toArray, List.set_cons_zero, List.set_cons_succ, i64_w, i32_w]
                         rfl
                        refine one_ (i := 11) (N := some 124) #[true, true, true, true, true, true, true, true, true, true, true, true, false, false, false, false, false] rfl rfl (zh5 HT_.out k9) d9 (fun K hK => ?_)
                        refine goes_ Tryd.func21 k9 rfl #[.slice (some ad247) l0.length c0, .string ((zai l0 x9_2).f0), .string ((zbn t256 x11_4).f0)] (by rfl) rfl rfl m9 ?_
                        with_reducible refine (zbr.calls _ _ l0 ((zai l0 x9_2).f0) ((zbn t256 x11_4).f0) t268 t269 _ ?side1 ?side2 A41.out).mono ?_
                        (case side1 => repeat (first | exact (Kd.zaF HR0.out HB.out) | (with_reducible refine Kd.zaM ?_ _) | (with_reducible refine Kd.zaN ?_ _) | (with_reducible refine Kd.zaW ?_)))
                        (case side2 => exact HC0.out)
                        rintro e w50 ⟨rfl, hb⟩
                        have HS4_ := (hb.cell (World.block_lt_of_cell? _ _ (hHeld.2.2.2.2.1))).trans (hHeld.2.2.2.2.1)
                        have HS5_ := (hb.cell (World.block_lt_of_cell? _ _ (hHeld.2.2.2.2.2))).trans (hHeld.2.2.2.2.2)
                        refine ⟨_, rfl, ?_⟩
                        have n0_ := zaa.mk (Kd.zaG (by (with_reducible repeat (first | apply Kd.zax | apply Kd.zay | apply Kd.zaC)); exact HO_7.out) hb)
                        have n1_ := zaa.mk (Kd.zaG (by (with_reducible repeat (first | apply Kd.zax | apply Kd.zay | apply Kd.zaC)); exact HO_10.out) hb)
                        have n2_ := zaa.mk (zaq (by repeat (first | (with_reducible first | exact HB.out | apply zad | apply zac | apply zae) | exact HB.out)) hb)
                        clear HO_7
                        clear HO_10
                        clear HB
                        have HO_7 := n0_
                        have HO_10 := n1_
                        have HB := n2_
                        clear n0_ n1_ n2_
                        (try clear hb)
                        (try clear hb2)
                        (try clear hk)
                        (try clear hi)
                        refine hK.out _ _ ⟨((HB.out.cell (World.block_lt_of_cell? w _ hw266_0)).trans hw266_0), ((HB.out.cell (World.block_lt_of_cell? w _ hw266_1)).trans hw266_1), ((HB.out.cell (World.block_lt_of_cell? w _ hw266_2)).trans hw266_2), ((HB.out.cell (World.block_lt_of_cell? w _ hw266_3)).trans hw266_3), HS4_, HS5_⟩ (fun hHeld => ?_)
                        clear hK K
                        refine norm_ (a' := ?_) ?_ ?_
                        rotate_left
                        ·
                         show Act.put _ (some 124) _ = _
                         simp only [Act.put, List.setIfInBounds_toArray, List.set_cons_zero, List.set_cons_succ, i64_w, i32_w]
                         rfl
                        refine pure_ (i := 12) (N := some 112) (v := ?_) (a' := ?_) #[true, true, true, true, true, true, true, true, true, true, true, true, true, false, false, false, false] rfl rfl (zbc HT_.out k9) (fun _ _ _ h => h) (Or.inl ⟨by rfl, ?_⟩) ?_ ?_
                        rotate_left
                        ·
                         intro w'
                         go_simp
                         with_reducible rfl
                        rotate_left
                        ·
                         simp only [Act.put, List.setIfInBounds_toArray, List.set_cons_zero, List.set_cons_succ, i64_w, i32_w]
                         rfl
                        refine pure_ (i := 13) (N := some 125) (v := ?_) (a' := ?_) #[true, true, true, true, true, true, true, true, true, true, true, true, true, true, false, false, false] rfl rfl (zbc HT_.out k9) (fun _ _ _ h => h) (Or.inl ⟨by rfl, ?_⟩) ?_ ?_
                        rotate_left
                        ·
                         intro w'
                         go_simp
                         with_reducible rfl
                        rotate_left
                        ·
                         simp only [Act.put, List.setIfInBounds_toArray, List.set_cons_zero, List.set_cons_succ, i64_w, i32_w]
                         rfl
                        refine pure_ (i := 14) (N := some 126) (v := ?_) (a' := ?_) #[true, true, true, true, true, true, true, true, true, true, true, true, true, true, true, false, false] rfl rfl (zbc HT_.out k9) (fun _ _ _ h => h) (Or.inl ⟨by rfl, ?_⟩) ?_ ?_
                        rotate_left
                        ·
                         intro w'
                         go_simp
                         with_reducible rfl
                        rotate_left
                        ·
                         simp only [Act.put, List.setIfInBounds_toArray, List.set_cons_zero, List.set_cons_succ, i64_w, i32_w]
                         rfl
                        refine pure_ (i := 15) (N := some 16) (v := ?_) (a' := ?_) #[true, true, true, true, true, true, true, true, true, true, true, true, true, true, true, true, false] rfl rfl (zbc HT_.out k9) (fun _ _ _ h => h) (Or.inl ⟨by rfl, ?_⟩) ?_ ?_
                        rotate_left
                        ·
                         intro w'
                         go_simp
                         with_reducible rfl
                        rotate_left
                        ·
                         simp only [Act.put, List.setIfInBounds_toArray, List.set_cons_zero, List.set_cons_succ, i64_w, i32_w]
                         rfl
                        refine pure_ (i := 16) (N := some 17) (v := ?_) (a' := ?_) #[true, true, true, true, true, true, true, true, true, true, true, true, true, true, true, true, true] rfl rfl (zbc HT_.out k9) (fun _ _ _ h => h) (Or.inl ⟨by rfl, ?_⟩) ?_ ?_
                        rotate_left
                        ·
                         intro w'
                         go_simp
                         with_reducible rfl
                        rotate_left
                        ·
                         simp only [Act.put, List.setIfInBounds_toArray, List.set_cons_zero, List.set_cons_succ, i64_w, i32_w]
                         rfl
                        refine done_ (zfI HT_.out k9) ?_
                        have p270 : 0 ≤ (x11_4 : Int) := of_decide_eq_true (by first | (with_reducible assumption) | assumption)
                        have q270 : x11_4 < (t256.length : Int) := of_decide_eq_true (by first | (with_reducible assumption) | assumption)
                        obtain ⟨ad270, e270, hx270_0, hx270_1⟩ := zeC (Kd.zaw HO_10.out).2.2 x11_4 p270 q270
                        obtain rfl : ad260 = ad270 := (by injection e270)
                        replace p270 := eq_true p270
                        replace q270 := eq_true q270
                        try go_wp2
                        go_roundg k4
                        case measure => have := HJ3.out; have := HK2.out; have := HJ24.out; have := HK4.out; omega
                        case rel => exact ⟨(wrap64 (x11_4 + 1)), (by first | rfl | (simp; done) | (simp [*]; done)), H', ⟨by have := HJ3.out; have := HK2.out; have := HJ24.out; have := HK4.out; omega⟩, ⟨by (with_reducible repeat (first | apply Kd.zax | apply Kd.zay | apply Kd.zaC)); exact HO_7.out⟩, ⟨by (with_reducible repeat (first | apply Kd.zax | apply Kd.zay | apply Kd.zaC)); exact HO_10.out⟩, ⟨by repeat (first | (with_reducible first | exact HB.out | apply zad | apply zac | apply zae) | exact HB.out)⟩⟩
                      ·
                       rw [if_neg c44] at H
                       exact absurd H s9
                     ·
                      rw [if_neg c43] at H
                      exact absurd H s9
                    ·
                     replace c42 := Bool.eq_false_iff.mpr c42
                     subst c42
                     have H1 : (none) = some r := by rw [if_neg (show ¬ (false = true) by decide)] at H; exact H
                     clear H
                     have H := H1
                     clear H1
                     exact absurd H s9
                   ·
                    rw [if_neg c38] at H
                    exact absurd H s9
                  ·
                   rw [if_neg c37] at H
                   exact absurd H s9
                 ·
                  rw [if_neg c36] at H
                  exact absurd H s9
                ·
                 rw [if_neg c35] at H
                 have c35b0 : decide (x11_4 < (t256.length : Int)) = false := decide_eq_false c35
                 clear c35
                 as_aux_lemma =>
                  have H' := zaa.mk H
                  clear H
                  obtain ⟨Ao51, co51, eo51⟩ := Kd.zaZ HO_10.out
                  subst eo51
                  go_wp2
                  go_roundg k4
                  case measure => have := HJ3.out; have := HK2.out; have := HJ24.out; have := HK4.out; omega
                  case rel => exact ⟨((wrap64 (x8_2 + 1))), (wrap64 (x9_2 + 1)), (by first | rfl | (simp; done) | (simp [*]; done)), (by first | rfl | (simp; done) | (simp [*]; done)), H', ⟨by have := HJ3.out; have := HK2.out; have := HJ24.out; have := HK4.out; omega⟩, ⟨by (with_reducible repeat (first | apply Kd.zax | apply Kd.zay | apply Kd.zaC)); exact HO_7.out⟩, ⟨by repeat (first | (with_reducible first | exact HB.out | apply zad | apply zac | apply zae) | exact HB.out)⟩⟩
          ·
           replace c24 := Bool.eq_false_iff.mpr c24
           subst c24
           have H1 : (chaperonlaw06_SubtypeHas.l0 k2 l0 t242 ((zai l0 t246).f0) t248 x8_2 (wrap64 (x9_2 + 1))) = some r := by rw [if_neg (show ¬ (false = true) by decide)] at H; exact H
           clear H
           have H := H1
           clear H1
           as_aux_lemma =>
            have H' := zaa.mk H
            clear H
            have p252 : 0 ≤ (x9_2 : Int) := of_decide_eq_true (by first | (with_reducible assumption) | assumption)
            have q252 : x9_2 < (l0.length : Int) := of_decide_eq_true (by first | (with_reducible assumption) | assumption)
            obtain ⟨ad252, A252_2, c252_2, A252_3, c252_3, e252, hx252_0, hx252_1, hx252_2, hx252_3, hl252_2, hi252_2, hl252_3, hi252_3⟩ := zbF HR0.out x9_2 p252 q252
            obtain rfl : ad247 = ad252 := (by injection e252)
            replace hx252_0 := (HB.out.cell (World.block_lt_of_cell? w _ hx252_0)).trans hx252_0
            replace hx252_1 := (HB.out.cell (World.block_lt_of_cell? w _ hx252_1)).trans hx252_1
            replace hx252_2 := (HB.out.cell (World.block_lt_of_cell? w _ hx252_2)).trans hx252_2
            replace hx252_3 := (HB.out.cell (World.block_lt_of_cell? w _ hx252_3)).trans hx252_3
            have HR252_2 := zaa.mk hi252_2
            have HC252_2 := zaa.mk hl252_2
            clear hi252_2 hl252_2
            have HR252_3 := zaa.mk hi252_3
            have HC252_3 := zaa.mk hl252_3
            clear hi252_3 hl252_3
            replace p252 := eq_true p252
            replace q252 := eq_true q252
            go_wp2_with (first | ((with_reducible refine zaO (f := 8) rfl ?_); refine zbj (some 57) rfl rfl Tryd.func8 k9 rfl #[.slice (some ad247) l0.length c0, .string ((zai l0 x9_2).f0), .string ((zai l0 t246).f0)] rfl m9 ?_; (with_reducible refine (zan.calls k2 _ _ l0 ((zai l0 x9_2).f0) ((zai l0 t246).f0) false _ ?side1 ?side2 A23.out).mono ?_); (case side1 => repeat (first | exact (Kd.zaF HR0.out HB.out) | (with_reducible refine Kd.zaM ?_ _) | (with_reducible refine Kd.zaN ?_ _) | (with_reducible refine Kd.zaW ?_))); (case side2 => exact HC0.out); rintro e w52 ⟨rfl, hb⟩; refine ⟨_, rfl, ?_⟩; have n0_ := zaa.mk (Kd.zaG (by (with_reducible repeat (first | apply Kd.zax | apply Kd.zay | apply Kd.zaC)); exact HO_7.out) hb); have n1_ := zaa.mk (zaq (by repeat (first | (with_reducible first | exact HB.out | apply zad | apply zac | apply zae) | exact HB.out)) hb); clear HO_7; clear HB; have HO_7 := n0_; have HB := n1_; clear n0_ n1_; (try clear hb); (try clear hb2); (try clear hk); (try clear hi)))
            go_roundg k2
            case measure => have := HJ3.out; have := HK2.out; omega
            case rel => exact ⟨(x8_2), (wrap64 (x9_2 + 1)), (by first | rfl | (simp; done) | (simp [*]; done)), (by first | rfl | (simp; done) | (simp [*]; done)), H', ⟨by have := HJ3.out; have := HK2.out; omega⟩, ⟨by (with_reducible repeat (first | apply Kd.zax | apply Kd.zay | apply Kd.zaC)); exact HO_7.out⟩, ⟨by repeat (first | (with_reducible first | exact HB.out | apply zad | apply zac | apply zae) | exact HB.out)⟩⟩
         ·
          rw [if_neg c22] at H
          exact absurd H s9
        ·
         rw [if_neg c21] at H
         have c21b0 : decide (x9_2 < (l0.length : Int)) = false := decide_eq_false c21
         clear c21
         by_cases c53 : t242 = true
         ·
          subst c53
          have H1 : (if x8_2 = (t248.length : Int) then ((zat.f k2 l0 ((zai l0 t246).f0)).bind fun t251 => (some (t251 == (x8_2 == 1)))) else (none)) = some r := by rw [if_pos rfl] at H; exact H
          clear H
          have H := H1
          clear H1
          by_cases c54 : x8_2 = (t248.length : Int)
          ·
           rw [if_pos c54] at H
           have c54b0 : (x8_2 == (t248.length : Int)) = true := beq_iff_eq.mpr c54
           have c54b1 : (x8_2 != (t248.length : Int)) = false := bne_eq_false_iff_eq.mpr c54
           clear c54
           replace H := Option.bind_eq_some_iff.mp H
           obtain ⟨t251, A550, H⟩ := H
           replace H : (some (t251 == (x8_2 == 1))) = some r := H
           have A55 := zaa.mk A550
           clear A550
           as_aux_lemma =>
            obtain rfl := Option.some.inj H
            obtain ⟨Ao56, co56, eo56⟩ := Kd.zaZ HO_7.out
            subst eo56
            go_wp2_with (first | (go_at_call 13; (with_reducible refine (zat.calls k2 _ _ l0 ((zai l0 t246).f0) t251 _ ?side1 ?side2 A55.out).mono ?_); (case side1 => repeat (first | exact (Kd.zaF HR0.out HB.out) | (with_reducible refine Kd.zaM ?_ _) | (with_reducible refine Kd.zaN ?_ _) | (with_reducible refine Kd.zaW ?_))); (case side2 => exact HC0.out); rintro e w57 ⟨rfl, hb⟩; have n0_ := zaa.mk (Kd.zaG (by (with_reducible repeat (first | apply Kd.zax | apply Kd.zay | apply Kd.zaC)); exact HO_7.out) hb); have n1_ := zaa.mk (zaq (by repeat (first | (with_reducible first | exact HB.out | apply zad | apply zac | apply zae) | exact HB.out)) hb); clear HO_7; clear HB; have HO_7 := n0_; have HB := n1_; clear n0_ n1_; (try clear hb); (try clear hb2); (try clear hk); (try clear hi)))
            go_ret
            exact ⟨by first | rfl | (simp [zaS, zaT] <;> rfl) | (simp [*, zaS, zaT] <;> rfl), by repeat (first | (with_reducible first | exact HB.out | apply zad | apply zac | apply zae) | exact HB.out)⟩
          ·
           rw [if_neg c54] at H
           exact absurd H s9
         ·
          replace c53 := Bool.eq_false_iff.mpr c53
          subst c53
          have H1 : (none) = some r := by rw [if_neg (show ¬ (false = true) by decide)] at H; exact H
          clear H
          have H := H1
          clear H1
          exact absurd H s9
     ·
      rw [if_neg c18] at H
      exact absurd H s9
    ·
     rw [if_neg c17] at H
     exact absurd H s9
end Go.Proofs.YtofoegknealilaaDoor.PAll
end

section
namespace Go.Proofs.YtofoegknealilaaDoor.PAll
open Go.RowKit Go.Proofs.YtofoegknealilaaDoorW.PrintWords Go.Proofs.YtofoegknealilaaDoorW.PrintLast Go.Proofs.YtofoegknealilaaDoorOpen
def chaperonlaw06_SubtypeHas.Pure : Prop := ∀ (l0 : List (S44)) (a1 : Int), l0.length ≤ maxLen → (∀ x ∈ l0, wf44 x) → (Lit.int .i64 a1).wf = true → ∃ k, chaperonlaw06_SubtypeHas.f k l0 a1 = some true
end Go.Proofs.YtofoegknealilaaDoor.PAll
end

section
namespace Go.Proofs.YtofoegknealilaaDoorEv
def Evn {α : Type} (g : Nat → Option α) (v : α) : Prop := ∃ K, ∀ k, K ≤ k → g k = some v
section
variable {α β : Type}
theorem Evn.ret (v : α) : Evn (fun _ => some v) v := ⟨0, fun _ _ => rfl⟩
theorem Evn.bind {g : Nat → Option α} {h : Nat → α → Option β} {a : α} {b : β} (hg : Evn g a) (hh : Evn (fun k => h k a) b) : Evn (fun k => (g k).bind fun x => h k x) b := by
 obtain ⟨K1, h1⟩ := hg
 obtain ⟨K2, h2⟩ := hh
 exact ⟨max K1 K2, fun k hk => by show (g k).bind (fun x => h k x) = some b; rw [h1 k o9]; exact h2 k o9⟩
theorem Evn.cbind {a : Option α} {h : Nat → α → Option β} {v : α} {b : β} (ha : a = some v) (hh : Evn (fun k => h k v) b) : Evn (fun k => a.bind fun x => h k x) b := by
 subst ha
 exact hh
theorem Evn.succ {g : Nat → Option α} {v : α} (h : Evn (fun k => g (k + 1)) v) : Evn g v := by
 obtain ⟨K, h⟩ := h
 exact ⟨K + 1, fun k hk => by
  obtain ⟨j, rfl⟩ : ∃ j, k = j + 1 := ⟨k - 1, by omega⟩
  exact h j o9⟩
theorem Evn.congr {g g' : Nat → Option α} {v : α} (e : ∀ k, g k = g' k) (h : Evn g' v) : Evn g v := by
 obtain ⟨K, h⟩ := h
 exact ⟨K, fun k hk => (e k).trans (h k hk)⟩
theorem Evn.pos {p : Prop} [Decidable p] {g h : Nat → Option α} {v : α} (hp : p) (hg : Evn g v) : Evn (fun k => if p then g k else h k) v := Evn.congr (fun k => if_pos hp) hg
theorem Evn.neg {p : Prop} [Decidable p] {g h : Nat → Option α} {v : α} (hp : ¬ p) (hg : Evn h v) : Evn (fun k => if p then g k else h k) v := Evn.congr (fun k => if_neg hp) hg
theorem Evn.ex {g : Nat → Option α} {v : α} (h : Evn g v) : ∃ k, g k = some v := by
 obtain ⟨K, h⟩ := h
 exact ⟨K, h K (Nat.le_refl _)⟩
theorem Evn.of {g : Nat → Option α} {v : α} (K : Nat) (h : ∀ k, K ≤ k → g k = some v) : Evn g v := ⟨K, h⟩
theorem Evn.val {g : Nat → Option α} {v v' : α} (h : Evn g v) (e : v = v') : Evn g v' := e ▸ h
end
end Go.Proofs.YtofoegknealilaaDoorEv
end

section
namespace Go.Proofs.YtofoegknealilaaDoor.Pure
open Go.RowKit Go.Proofs.YtofoegknealilaaDoor.PAll Go.Proofs.YtofoegknealilaaDoorW.PrintWords Go.Proofs.YtofoegknealilaaDoorW.PrintLast Go.Proofs.YtofoegknealilaaDoorEv Go.Proofs.YtofoegknealilaaDoorTab Go.Proofs.YtofoegknealilaaDoorWords
abbrev Cl := S44
abbrev Mb := S50
abbrev Vr := S74
abbrev Sg := S57
theorem w1 {i n : Nat} (h : i < n) (hn : n < 4398046511104) : wrap64 ((i : Int) + 1) = ((i + 1 : Nat) : Int) := by unfold wrap64; omega
theorem rdV (l : List (S74)) (i : Nat) (h : i < l.length) : za0 l (i : Int) = l[i] := by
 unfold za0
 rw [Int.toNat_natCast, List.getD_eq_getElem?_getD, List.getElem?_eq_getElem h]; rfl
theorem rdS (l : List (S57)) (i : Nat) (h : i < l.length) : zaR l (i : Int) = l[i] := by
 unfold zaR
 rw [Int.toNat_natCast, List.getD_eq_getElem?_getD, List.getElem?_eq_getElem h]; rfl
theorem rdM (l : List Mb) (i : Nat) (h : i < l.length) : zbn l (i : Int) = l[i] := by
 unfold zbn
 rw [Int.toNat_natCast, List.getD_eq_getElem?_getD, List.getElem?_eq_getElem h]; rfl
structure TB (t : List Cl) : Prop where
 len : t.length ≤ 9
 fs : ∀ c ∈ t, c.f2.length ≤ 7
 ms : ∀ c ∈ t, c.f3.length ≤ 7
 ps : ∀ c ∈ t, ∀ m ∈ c.f3, m.f1.length ≤ 10
theorem zcM (t : List Cl) : ∀ (k : Nat) (pre : List Nat) (nm : ByteArray), (lineP t k pre nm).length ≤ k
 | 0, _, _ => by simp [lineP]
 | k + 1, pre, nm => by
  unfold lineP
  split
  ·
   simp
  ·
   split
   ·
    simp
   ·
    have := zcM t k
    simp only [List.length_cons]
    have h1 := this (pre ++ [(idxC nm t 0).toNat]) (clsAt t (idxC nm t 0).toNat).f1
    omega
theorem zdS (t : List Cl) (p : Nat) (h : p < t.length) : clsAt t p ∈ t := by
 unfold clsAt zai
 rw [Int.toNat_natCast, List.getD_eq_getElem?_getD, List.getElem?_eq_getElem h]
 exact List.getElem_mem h
theorem zeV {α : Type} (f : Nat → List α) (b : Nat) : ∀ (l : List Nat), (∀ p ∈ l, (f p).length ≤ b) → (l.flatMap f).length ≤ l.length * b
 | [], _ => by simp
 | x :: r, h => by
  have h1 := zeV f b r (fun p hp => h p (List.mem_cons_of_mem _ hp))
  have h2 := h x List.mem_cons_self
  simp only [List.flatMap_cons, List.length_append, List.length_cons]
  rw [Nat.succ_mul]; omega
section
variable {t : List Cl} (ht : TB t)
include ht
theorem TB.line (c : ByteArray) : (lineL t c).length ≤ 10 := by
 have := zcM t (t.length + 1) [] c
 have h := ht.len
 unfold lineL; omega
theorem TB.fields (c : ByteArray) : (zbe t c).length ≤ 70 := by
 have h1 := ht.line c
 have h2 := zeV (fun p => (clsAt t p).f2) 7 (lineL t c).reverse (fun p hp => ht.fs _ (zdS t p (zbW t _ _ _ _ (List.mem_reverse.1 hp))))
 rw [List.length_reverse] at h2
 exact Nat.le_trans h2 o9
theorem TB.all (c : ByteArray) : zaU.all t c ≤ 70 := by
 have h1 := ht.line c
 have h2 := zeV (fun p => (clsAt t p).f3) 7 (lineL t c).reverse (fun p hp => ht.ms _ (zdS t p (zbW t _ _ _ _ (List.mem_reverse.1 hp))))
 rw [List.length_reverse] at h2
 exact Nat.le_trans h2 o9
theorem TB.small : zaU.small t = true := by
 unfold zaU.small
 have h := ht.len
 simp only [Bool.and_eq_true, decide_eq_true_eq, List.all_eq_true]
 exact ⟨by omega, fun x hx => ⟨by have := ht.ms x hx; omega, fun m hm => by have := ht.ps x hx m hm; omega⟩⟩
end
theorem zeZ (out : List (S57)) (m : S57) : (putS out m).length ≤ out.length + 1 := by
 unfold putS
 split <;> simp
theorem zf6 : ∀ (l out : List (S57)), (l.foldl putS out).length ≤ out.length + l.length
 | [], out => by simp
 | m :: r, out => by
  have h1 := zf6 r (putS out m)
  have h2 := zeZ out m
  simp only [List.foldl_cons, List.length_cons]; omega
theorem TB.meths {t : List Cl} (ht : TB t) (c : ByteArray) : (zbN t c).length ≤ 70 := by
 have h1 := zf6 ((lineL t c).reverse.flatMap fun p => (clsAt t p).f3) []
 have h2 := ht.all c
 unfold zaU.all at h2
 unfold zbN zff
 simp only [List.length_nil] at h1; omega
def mem (t : List Cl) (c : ByteArray) : List Mb := (zbe t c).map (fun v => ⟨v.f0, -1⟩) ++ (zbN t c).map (fun m => ⟨m.f0, (m.f1.length : Int)⟩)
theorem zhZ (o : List Mb) (l : List (S57)) (hl : l.length ≤ 70) : ∀ (d i : Nat) (x : List Mb), d = l.length - i → i ≤ l.length → x.length ≤ 70 + i → Evn (fun k => zar.l1 k x l (l.length : Int) (i : Int)) (x ++ (l.drop i).map (fun m => ⟨m.f0, (m.f1.length : Int)⟩)) := by
 intro d
 induction d with
 | zero =>
  intro i x hd hi hx
  refine Evn.succ (Evn.neg o9 ((Evn.ret _).val ?_))
  rw [List.drop_eq_nil_of_le o9]; simp
 | succ d ih =>
  intro i x hd hi hx
  have h : i < l.length := by omega
  rw [List.drop_eq_getElem_cons h]
  refine Evn.succ (Evn.pos o9 (Evn.pos o9 (Evn.pos o9 (Evn.pos o9 ?_))))
  rw [rdS l i h, w1 h o9]
  refine (ih (i + 1) (x ++ [⟨l[i].f0, (l[i].f1.length : Int)⟩]) o9 o9 (by simp; omega)).val ?_
  simp only [List.append_assoc, List.map_cons, List.cons_append, List.nil_append]
theorem zhW (t : List Cl) (ht : TB t) (c : ByteArray) (l : List (S74)) (hl : l.length ≤ 70) : ∀ (d i : Nat) (x : List Mb), d = l.length - i → i ≤ l.length → x.length ≤ i → Evn (fun k => zar.l0 k t c x l (l.length : Int) (i : Int)) (x ++ (l.drop i).map (fun v => ⟨v.f0, -1⟩) ++ (zbN t c).map (fun m => ⟨m.f0, (m.f1.length : Int)⟩)) := by
 intro d
 induction d with
 | zero =>
  intro i x hd hi hx
  refine Evn.succ (Evn.neg o9 (Evn.cbind (a := zaU.f t c) (v := zbN t c) ?_ ?_))
  ·
   unfold zaU.f
   rw [if_pos ⟨ht.small, by have := ht.all c; omega⟩]
  ·
   refine (zhZ [] (zbN t c) (ht.meths c) _ 0 x rfl o9 o9).val ?_
   rw [List.drop_eq_nil_of_le (show l.length ≤ i by omega)]; simp
 | succ d ih =>
  intro i x hd hi hx
  have h : i < l.length := by omega
  rw [List.drop_eq_getElem_cons h]
  refine Evn.succ (Evn.pos o9 (Evn.pos o9 (Evn.pos o9 (Evn.pos o9 ?_))))
  rw [rdV l i h, w1 h o9]
  refine (ih (i + 1) (x ++ [⟨l[i].f0, -1⟩]) o9 o9 (by simp; omega)).val ?_
  simp only [List.append_assoc, List.map_cons, List.cons_append, List.nil_append]
theorem zdq {t : List Cl} (ht : TB t) (c : ByteArray) : Evn (fun k => zar.f k t c) (mem t c) := by
 refine Evn.cbind (a := zbD.f t c) (v := zbe t c) ?_ ?_
 ·
  unfold zbD.f
  rw [if_pos ⟨by have := ht.len; omega, by have := ht.fields c; omega⟩]
 ·
  refine (zhW t ht c (zbe t c) (ht.fields c) _ 0 [] rfl o9 s9).val ?_
  simp [mem]
theorem zfJ {t : List Cl} (ht : TB t) (c : ByteArray) : (mem t c).length ≤ 140 := by
 have h1 := ht.fields c
 have h2 := ht.meths c
 simp only [mem, List.length_append, List.length_map]; omega
theorem rdC (l : List Cl) (i : Nat) (h : i < l.length) : zai l (i : Int) = l[i] := by
 unfold zai
 rw [Int.toNat_natCast, List.getD_eq_getElem?_getD, List.getElem?_eq_getElem h]; rfl
theorem zgm (l : List Vr) (hl : l.length ≤ 1000) : ∀ (d i : Nat), d = l.length - i → i ≤ l.length → (∀ j, j < i → ∀ h : j < l.length, l[j].f0.size ≤ 30 ∧ l[j].f1.size ≤ 30) →
  ∃ b, Evn (fun k => zam.l0 k l (i : Int)) b ∧ (b = false → ∀ v ∈ l, v.f0.size ≤ 30 ∧ v.f1.size ≤ 30) := by
 intro d
 induction d with
 | zero =>
  intro i hd hi hb
  refine ⟨false, Evn.succ (Evn.neg o9 (Evn.ret _)), fun _ x hx => ?_⟩
  obtain ⟨j, hj, rfl⟩ := List.getElem_of_mem hx
  exact hb j o9 hj
 | succ d ih =>
  intro i hd hi hb
  have h : i < l.length := by omega
  by_cases h0 : ((l[i].f0.size : Nat) : Int) > 30
  ·
   exact ⟨true, Evn.succ (Evn.pos o9 (Evn.pos o9 (Evn.pos (by rw [rdV l i h]; exact h0) (Evn.ret _)))), fun h => by cases h⟩
  by_cases h1 : ((l[i].f1.size : Nat) : Int) > 30
  ·
   exact ⟨true, Evn.succ (Evn.pos o9 (Evn.pos o9 (Evn.neg (by rw [rdV l i h]; exact h0) (Evn.pos (by rw [rdV l i h]; exact h1) (Evn.ret _))))), fun h => by cases h⟩
  obtain ⟨b, h3, h4⟩ := ih (i + 1) o9 o9 fun j hj hjl => by
   rcases Nat.lt_or_ge j i with h3 | h3
   ·
    exact hb j h3 hjl
   ·
    obtain rfl : j = i := by omega
    omega
  refine ⟨b, Evn.succ (Evn.pos o9 (Evn.pos o9 (Evn.neg (by rw [rdV l i h]; exact h0) (Evn.neg (by rw [rdV l i h]; exact h1) ?_)))), h4⟩
  rw [w1 h o9]; exact h3
theorem zdJ (l : List Vr) (hl : l.length ≤ 1000) : ∃ b, Evn (fun k => zam.f k l) b ∧ (b = false → ∀ v ∈ l, v.f0.size ≤ 30 ∧ v.f1.size ≤ 30) := zgm l hl l.length 0 o9 o9 fun j hj => by omega
def okM (m : Sg) : Prop := m.f0.size ≤ 30 ∧ m.f2.size ≤ 30 ∧ m.f1.length ≤ 10 ∧ ∀ v ∈ m.f1, v.f0.size ≤ 30 ∧ v.f1.size ≤ 30
def okC (c : Cl) : Prop := c.f0.size ≤ 30 ∧ c.f1.size ≤ 30 ∧ c.f2.length ≤ 7 ∧ c.f3.length ≤ 7 ∧ (∀ v ∈ c.f2, v.f0.size ≤ 30 ∧ v.f1.size ≤ 30) ∧ ∀ m ∈ c.f3, okM m
theorem zji (t : List Cl) (i : Nat) (b' : Bool) (hn : Evn (fun k => zaf.l0 k t (wrap64 ((i : Int) + 1))) b') (n s : ByteArray) (fs : List Vr) (ms : List Sg) (hm : ms.length ≤ 7) : ∀ (d j : Nat), d = ms.length - j → j ≤ ms.length → (∀ q, q < j → ∀ h : q < ms.length, okM ms[q]) →
  ∃ b, Evn (fun k => zaf.l1 k t (i : Int) (j : Int) n s fs ms) b ∧ (b = false → b' = false ∧ ∀ m ∈ ms, okM m) := by
 intro d
 induction d with
 | zero =>
  intro j hd hj hb
  refine ⟨b', Evn.succ (Evn.neg o9 hn), fun e => ⟨e, fun x hx => ?_⟩⟩
  obtain ⟨q, hq, rfl⟩ := List.getElem_of_mem hx
  exact hb q o9 hq
 | succ d ih =>
  intro j hd hj hb
  have h : j < ms.length := by omega
  by_cases h0 : ((ms[j].f0.size : Nat) : Int) > 30
  ·
   exact ⟨true, Evn.succ (Evn.pos o9 (Evn.pos o9 (Evn.pos (by rw [rdS ms j h]; exact h0) (Evn.ret _)))), fun h => by cases h⟩
  by_cases h1 : ((ms[j].f2.size : Nat) : Int) > 30
  ·
   exact ⟨true, Evn.succ (Evn.pos o9 (Evn.pos o9 (Evn.neg (by rw [rdS ms j h]; exact h0) (Evn.pos (by rw [rdS ms j h]; exact h1) (Evn.ret _))))), fun h => by cases h⟩
  by_cases h2 : ((ms[j].f1.length : Nat) : Int) > 10
  ·
   exact ⟨true, Evn.succ (Evn.pos o9 (Evn.pos o9 (Evn.neg (by rw [rdS ms j h]; exact h0) (Evn.neg (by rw [rdS ms j h]; exact h1) (Evn.pos (by rw [rdS ms j h]; exact h2) (Evn.ret _)))))), fun h => by cases h⟩
  obtain ⟨v, h3, h4⟩ := zdJ ms[j].f1 o9
  rw [← rdS ms j h] at h3
  cases v with
  | true => exact ⟨true, Evn.succ (Evn.pos o9 (Evn.pos o9 (Evn.neg (by rw [rdS ms j h]; exact h0) (Evn.neg (by rw [rdS ms j h]; exact h1) (Evn.neg (by rw [rdS ms j h]; exact h2) (Evn.bind h3 (Evn.pos rfl (Evn.ret _)))))))), fun h => by cases h⟩
  | false =>
   obtain ⟨b, h5, h6⟩ := ih (j + 1) o9 o9 fun q hq hql => by
    rcases Nat.lt_or_ge q j with h3 | h3
    ·
     exact hb q h3 hql
    ·
     obtain rfl : q = j := by omega
     exact ⟨by omega, by omega, by omega, h4 rfl⟩
   refine ⟨b, Evn.succ (Evn.pos o9 (Evn.pos o9 (Evn.neg (by rw [rdS ms j h]; exact h0) (Evn.neg (by rw [rdS ms j h]; exact h1) (Evn.neg (by rw [rdS ms j h]; exact h2) (Evn.bind h3 (Evn.neg s9 ?_))))))), h6⟩
   rw [w1 h o9]; exact h5
theorem zii (t : List Cl) : ∀ (d i : Nat), d = 10 - i → i ≤ 10 → i ≤ t.length →
  ∃ b, Evn (fun k => zaf.l0 k t (i : Int)) b ∧ (b = false → t.length ≤ 9 ∧ ∀ j, i ≤ j → ∀ h : j < t.length, okC t[j]) := by
 intro d
 induction d with
 | zero =>
  intro i hd hi hil
  obtain rfl : i = 10 := by omega
  by_cases h : (10 : Int) < (t.length : Int)
  ·
   refine ⟨true, Evn.succ (Evn.pos h (Evn.succ (Evn.congr (g' := fun _ => some (decide ((t.length : Int) > 9))) (fun k => rfl) ((Evn.ret _).val ?_)))), fun h => by cases h⟩
   simp; omega
  ·
   refine ⟨true, Evn.succ (Evn.neg h (Evn.succ (Evn.congr (g' := fun _ => some (decide ((t.length : Int) > 9))) (fun k => rfl) ((Evn.ret _).val ?_)))), fun h => by cases h⟩
   simp; omega
 | succ d ih =>
  intro i hd hi hil
  by_cases h : i < t.length
  ·
   have hs : ∀ {b : Bool}, Evn (fun k => if (0 : Int) ≤ (i : Int) then (if (i : Int) < (t.length : Int) then (if (((zai t (i : Int)).f0).size : Int) > 30 then (zaf.j2 k t (i : Int) true ((zai t (i : Int)).f0) ((zai t (i : Int)).f1) ((zai t (i : Int)).f2) ((zai t (i : Int)).f3)) else (if (((zai t (i : Int)).f1).size : Int) > 30 then (zaf.j2 k t (i : Int) true ((zai t (i : Int)).f0) ((zai t (i : Int)).f1) ((zai t (i : Int)).f2) ((zai t (i : Int)).f3)) else (if (((zai t (i : Int)).f2).length : Int) > 7 then (zaf.j2 k t (i : Int) true ((zai t (i : Int)).f0) ((zai t (i : Int)).f1) ((zai t (i : Int)).f2) ((zai t (i : Int)).f3)) else (if (((zai t (i : Int)).f3).length : Int) > 7 then (zaf.j2 k t (i : Int) true ((zai t (i : Int)).f0) ((zai t (i : Int)).f1) ((zai t (i : Int)).f2) ((zai t (i : Int)).f3)) else ((zam.f k ((zai t (i : Int)).f2)).bind fun t265 => (zaf.j2 k t (i : Int) t265 ((zai t (i : Int)).f0) ((zai t (i : Int)).f1) ((zai t (i : Int)).f2) ((zai t (i : Int)).f3))))))) else (none)) else (none)) b →
     Evn (fun k => zaf.l0 k t (i : Int)) b := fun hh => Evn.succ (Evn.pos o9 (Evn.succ (Evn.pos (by simp; omega) hh)))
   have hj : ∀ (n s : ByteArray) (fs : List Vr) (ms : List Sg), Evn (fun k => zaf.j2 k t (i : Int) true n s fs ms) true := fun n s fs ms => Evn.succ (Evn.congr (g' := fun _ => some true) (fun k => rfl) (Evn.ret _))
   rw [rdC t i h] at hs
   by_cases h0 : ((t[i].f0.size : Nat) : Int) > 30
   ·
    exact ⟨true, hs (Evn.pos o9 (Evn.pos o9 (Evn.pos h0 (hj _ _ _ _)))), fun h => by cases h⟩
   by_cases h1 : ((t[i].f1.size : Nat) : Int) > 30
   ·
    exact ⟨true, hs (Evn.pos o9 (Evn.pos o9 (Evn.neg h0 (Evn.pos h1 (hj _ _ _ _))))), fun h => by cases h⟩
   by_cases h2 : ((t[i].f2.length : Nat) : Int) > 7
   ·
    exact ⟨true, hs (Evn.pos o9 (Evn.pos o9 (Evn.neg h0 (Evn.neg h1 (Evn.pos h2 (hj _ _ _ _)))))), fun h => by cases h⟩
   by_cases h3 : ((t[i].f3.length : Nat) : Int) > 7
   ·
    exact ⟨true, hs (Evn.pos o9 (Evn.pos o9 (Evn.neg h0 (Evn.neg h1 (Evn.neg h2 (Evn.pos h3 (hj _ _ _ _))))))), fun h => by cases h⟩
   obtain ⟨v, h4, h5⟩ := zdJ t[i].f2 o9
   cases v with
   | true => exact ⟨true, hs (Evn.pos o9 (Evn.pos o9 (Evn.neg h0 (Evn.neg h1 (Evn.neg h2 (Evn.neg h3 (Evn.bind h4 (hj _ _ _ _)))))))), fun h => by cases h⟩
   | false =>
    obtain ⟨b', h6, h7⟩ := ih (i + 1) o9 o9 o9
    rw [← w1 (show i < 10 by omega) o9] at h6
    obtain ⟨b, h8, h9⟩ := zji t i b' h6 t[i].f0 t[i].f1 t[i].f2 t[i].f3 o9 t[i].f3.length 0 o9 o9 (fun q hq => by omega)
    refine ⟨b, hs (Evn.pos o9 (Evn.pos o9 (Evn.neg h0 (Evn.neg h1 (Evn.neg h2 (Evn.neg h3 (Evn.bind h4 (Evn.succ (Evn.congr (fun k => rfl) h8))))))))), fun e => ?_⟩
    obtain ⟨e1, e2⟩ := h9 e
    obtain ⟨e3, e4⟩ := h7 e1
    refine ⟨e3, fun j hj hjl => ?_⟩
    rcases Nat.eq_or_lt_of_le hj with rfl | hj
    ·
     exact ⟨by omega, by omega, by omega, by omega, h5 rfl, e2⟩
    ·
     exact e4 j hj hjl
  ·
   refine ⟨decide ((t.length : Int) > 9), Evn.succ (Evn.neg o9 (Evn.succ (Evn.congr (fun k => rfl) (Evn.ret _)))), fun e => ⟨by have := of_decide_eq_false e; omega, fun j hj hjl => by omega⟩⟩
structure TS (t : List Cl) : Prop extends TB t where
 ok : ∀ c ∈ t, okC c
theorem zhI (t : List Cl) : ∃ b, Evn (fun k => zaf.f k t) b ∧ (b = false → TS t) := by
 obtain ⟨b, h1, h2⟩ := zii t 10 0 rfl o9 o9
 refine ⟨b, h1, fun e => ?_⟩
 obtain ⟨h3, h4⟩ := h2 e
 have h5 : ∀ c ∈ t, okC c := fun c hc => by
  obtain ⟨j, hj, rfl⟩ := List.getElem_of_mem hc
  exact h4 j o9 hj
 exact { len := h3, fs := fun c hc => (h5 c hc).2.2.1, ms := fun c hc => (h5 c hc).2.2.2.1, ps := fun c hc m hm => ((h5 c hc).2.2.2.2.2 m hm).2.2.1, ok := h5 }
theorem bl {a b : ByteArray} (h : a.toList = b.toList) : a = b := toList_inj h
structure Good (t : List Cl) : Prop where
 siz : ∀ i, i < t.length → zdV t i = 0
 lin : ∀ i, i < t.length → zey t i = 0
 own : ∀ i, i < t.length → ownF t (mem t (clsAt t i).f1) i = 0
theorem zeI (f : Nat → Int) : ∀ l : List Nat, scanL f l = none → ∀ i ∈ l, f i = 0
 | [], _, i, hi => by cases hi
 | x :: r, h, i, hi => by
  unfold scanL at h
  by_cases hx : f x = 0
  ·
   rw [if_pos hx] at h
   rcases List.mem_cons.1 hi with rfl | hi
   ·
    exact hx
   ·
    exact zeI f r h i hi
  ·
   rw [if_neg hx] at h; cases h
theorem zdn (f : Nat → Int) : ∀ (l : List Nat) (i : Nat), scanL f l = some i → ¬ f i = 0
 | [], i, h => by cases h
 | x :: r, i, h => by
  unfold scanL at h
  by_cases hx : f x = 0
  ·
   rw [if_pos hx] at h; exact zdn f r i h
  ·
   rw [if_neg hx] at h; cases h; exact hx
theorem zfZ (t : List Cl) (mb : ByteArray → List Mb) : ∀ ks : List Nat, (zb9 t mb ks).1 = 0 → ∀ k ∈ ks, ∀ i, i < t.length → lookF t mb k i = 0
 | [], _, k, hk => by cases hk
 | k0 :: r, h, k, hk => by
  unfold zb9 at h
  cases hs : scanL (lookF t mb k0) (List.range t.length) with
  | some j => rw [hs] at h; exact absurd h (zdn _ _ _ hs)
  | none =>
   rw [hs] at h
   rcases List.mem_cons.1 hk with rfl | hk
   ·
    exact fun i hi => zeI _ _ hs i (List.mem_range.2 hi)
   ·
    exact zfZ t mb r h k hk
theorem ziH {t : List Cl} (h : (zbZ t (mem t)).1 = 0) : Good t := by
 unfold zbZ at h
 by_cases h40 : 40 < t.length
 ·
  rw [if_pos h40] at h; exact absurd h d9
 ·
  rw [if_neg h40] at h
  have h1 := zfZ t (mem t) [0, 1, 2] h
  exact ⟨fun i hi => h1 0 s9 i hi, fun i hi => h1 1 s9 i hi, fun i hi => h1 2 s9 i hi⟩
theorem ix_le (s : ByteArray) : ∀ (l : List Cl) (i j : Nat), j < l.length → (clsAt l j).f0 = s → 0 ≤ idxC s l i ∧ idxC s l i ≤ ((i + j : Nat) : Int)
 | [], i, j, h, _ => by simp at h
 | x :: r, i, 0, _, h => by
  have hx : x.f0 = s := h
  unfold idxC
  rw [if_pos (by rw [hx])]
  omega
 | x :: r, i, j + 1, hj, h => by
  rw [zeE] at h
  unfold idxC
  by_cases hx : x.f0.toList = s.toList
  ·
   rw [if_pos hx]; omega
  ·
   rw [if_neg hx]
   have := ix_le s r (i + 1) j (by simpa using hj) h
   omega
section
variable {t : List Cl} (g : Good t)
include g
theorem Good.grt (i : Nat) (hi : i < t.length) : word great (clsAt t i).f0 = true := by
 have h := g.siz i hi
 unfold zdV at h
 cases hw : word great (clsAt t i).f0 with
 | true => rfl
 | false => rw [if_pos hw] at h; exact absurd h d9
theorem Good.first (i : Nat) (hi : i < t.length) : idxC (clsAt t i).f0 t 0 = (i : Int) := by
 have h := g.siz i hi
 unfold zdV at h
 rw [if_neg (by rw [g.grt i hi]; decide)] at h
 have h1 := ix_le (clsAt t i).f0 t 0 i hi rfl
 by_cases h2 : at1 t (clsAt t i).f0 < (i : Int)
 ·
  rw [if_pos h2] at h; exact absurd h d9
 ·
  unfold at1 at h2
  rw [if_neg o9] at h2
  omega
theorem Good.ne (i : Nat) (hi : i < t.length) : (clsAt t i).f0 ≠ ⟨#[]⟩ := fun e => by
 have h := g.grt i hi
 rw [e] at h
 unfold word at h
 exact absurd h d9
end
def up (t : List Cl) (i : Nat) : Option Nat := if idxC (clsAt t i).f1 t 0 < 0 then none else some (idxC (clsAt t i).f1 t 0).toNat
theorem zcA {t : List Cl} {i j : Nat} (h : up t i = some j) : j < t.length ∧ (clsAt t i).f1 = (clsAt t j).f0 ∧ idxC (clsAt t i).f1 t 0 = (j : Int) := by
 unfold up at h
 by_cases h1 : idxC (clsAt t i).f1 t 0 < 0
 ·
  rw [if_pos h1] at h; cases h
 ·
  rw [if_neg h1] at h
  cases h
  obtain ⟨h2, h3, _⟩ := zch _ t h1
  exact ⟨h2, (bl h3).symm, by omega⟩
theorem zeN {t : List Cl} {i : Nat} (h : up t i = none) : idxC (clsAt t i).f1 t 0 < 0 := by
 unfold up at h
 by_cases h1 : idxC (clsAt t i).f1 t 0 < 0
 ·
  exact h1
 ·
  rw [if_neg h1] at h; cases h
def it (t : List Cl) : Nat → Nat → Option Nat
 | 0, i => some i
 | k + 1, i => (up t i).bind (it t k)
theorem zcG (t : List Cl) : ∀ (a b i : Nat), it t (a + b) i = (it t a i).bind (it t b)
 | 0, b, i => by rw [Nat.zero_add]; rfl
 | a + 1, b, i => by
  rw [Nat.add_right_comm]
  show (up t i).bind (it t (a + b)) = ((up t i).bind (it t a)).bind (it t b)
  cases up t i with
  | none => rfl
  | some j => exact zcG t a b j
theorem it_lt (t : List Cl) : ∀ (a i j : Nat), i < t.length → it t a i = some j → j < t.length
 | 0, i, j, hi, h => by cases h; exact hi
 | a + 1, i, j, hi, h => by
  obtain ⟨m, h1, h2⟩ := Option.bind_eq_some_iff.1 h
  exact it_lt t a m j (zcA h1).1 h2
theorem zev {t : List Cl} {p i : Nat} (hp : 1 ≤ p) (h : it t p i = some i) : ∀ m, (it t m i).isSome = true := by
 intro m
 induction m using Nat.strongRecOn with
 | _ m ih =>
  rcases Nat.lt_or_ge m p with hm | hm
  ·
   have h1 := zcG t m (p - m) i
   rw [show m + (p - m) = p by omega, h] at h1
   cases hx : it t m i with
   | none => rw [hx] at h1; cases h1
   | some _ => rfl
  ·
   have h1 := zcG t p (m - p) i
   rw [show p + (m - p) = m by omega, h] at h1
   rw [h1]
   exact ih (m - p) o9
def path (t : List Cl) : Nat → Nat → List Nat
 | 0, i => [i]
 | k + 1, i => i :: (match up t i with | none => [] | some j => path t k j)
theorem zcY (t : List Cl) (k : Nat) (pre : List Nat) (nm : ByteArray) (h : idxC nm t 0 < 0) : lineP t k pre nm = [] := by
 cases k with
 | zero => rfl
 | succ k => unfold lineP; rw [if_pos h]
theorem zfi (t : List Cl) : ∀ (k i : Nat) (pre : List Nat) (fuel : Nat) (nm : ByteArray), idxC nm t 0 = (i : Int) → it t (k + 1) i = none → (∀ q ∈ pre, ∀ j, it t j i ≠ some q) → k < fuel → lineP t fuel pre nm = path t k i := by
 intro k
 induction k with
 | zero =>
  intro i pre fuel nm hn hd hp hf
  obtain ⟨f, rfl⟩ : ∃ f, fuel = f + 1 := ⟨fuel - 1, by omega⟩
  unfold lineP
  rw [if_neg o9, hn, Int.toNat_natCast, if_neg (fun h => hp i h 0 rfl)]
  have hu : up t i = none := by
   cases hu : up t i with
   | none => rfl
   | some j => simp [it, hu] at hd
  rw [zcY t _ _ _ (zeN hu)]
  rfl
 | succ k ih =>
  intro i pre fuel nm hn hd hp hf
  obtain ⟨f, rfl⟩ : ∃ f, fuel = f + 1 := ⟨fuel - 1, by omega⟩
  unfold lineP
  rw [if_neg o9, hn, Int.toNat_natCast, if_neg (fun h => hp i h 0 rfl)]
  unfold path
  cases hu : up t i with
  | none => rw [zcY t _ _ _ (zeN hu)]
  | some j =>
   have hd' : it t (k + 1) j = none := by
    have : it t (k + 1 + 1) i = (up t i).bind (it t (k + 1)) := rfl
    rw [this, hu] at hd
    exact hd
   have hs : ∀ a, it t (a + 1) i = it t a j := fun a => by
    show (up t i).bind (it t a) = _
    rw [hu]; rfl
   rw [ih j (pre ++ [i]) f _ (zcA hu).2.2 hd' (fun q hq a ha => ?_) o9]
   rcases List.mem_append.1 hq with hq | hq
   ·
    exact hp q hq (a + 1) ((hs a).trans ha)
   ·
    rw [List.mem_singleton] at hq
    subst hq
    have := zev (p := a + 1) o9 ((hs a).trans ha) (k + 1 + 1)
    rw [hd] at this
    cases this
theorem zfo (t : List Cl) : ∀ (k i : Nat), it t (k + 1) i = none → path t (k + 1) i = path t k i
 | 0, i, h => by
  have hu : up t i = none := by
   cases hu : up t i with
   | none => rfl
   | some j => simp [it, hu] at h
  simp [path, hu]
 | k + 1, i, h => by
  show i :: _ = i :: _
  cases hu : up t i with
  | none => rfl
  | some j =>
   have h' : it t (k + 1) j = none := by
    have : it t (k + 1 + 1) i = (up t i).bind (it t (k + 1)) := rfl
    rw [this, hu] at h
    exact h
   show i :: path t (k + 1) j = i :: path t k j
   rw [zfo t k j h']
theorem zix {t : List Cl} {s : Nat} : ∀ p, 1 ≤ p → it t p s = some s → ∃ p, 1 ≤ p ∧ it t p s = some s ∧ ∀ q, 1 ≤ q → q < p → it t q s ≠ some s := by
 intro p
 induction p using Nat.strongRecOn with
 | _ p ih =>
  intro hp h
  by_cases hm : ∀ q, 1 ≤ q → q < p → it t q s ≠ some s
  ·
   exact ⟨p, hp, h, hm⟩
  ·
   obtain ⟨q, hq⟩ := Classical.not_forall.1 hm
   obtain ⟨h1, hq⟩ := Classical.not_imp.1 hq
   obtain ⟨h2, hq⟩ := Classical.not_imp.1 hq
   exact ih q h2 h1 (Classical.not_not.1 hq)
theorem zhO {t : List Cl} {s p : Nat} (hp : 1 ≤ p) (h : it t p s = some s) (hm : ∀ q, 1 ≤ q → q < p → it t q s ≠ some s) (z : Nat) (hz : it t (p - 1) s = some z) :
  ∀ (d q x : Nat) (pre : List Nat) (fuel : Nat) (nm : ByteArray), d = p - 1 - q → q < p → it t q s = some x → idxC nm t 0 = (x : Int) → (∀ y ∈ pre, ∃ r, r < q ∧ it t r s = some y) → (0 < q → s ∈ pre) → d < fuel → (lineP t fuel pre nm).getLast? = some z := by
 have hdist : ∀ a b x, a < b → b < p → it t a s = some x → it t b s = some x → False := fun a b x hab hb h1 h2 => by
  have h3 := zcG t b (p - b) s
  rw [show b + (p - b) = p by omega, h, h2] at h3
  have h4 := zcG t a (p - b) s
  rw [h1] at h4
  exact hm (a + (p - b)) o9 o9 (h4.trans h3.symm)
 intro d
 induction d with
 | zero =>
  intro q x pre fuel nm hd hq hx hn hpre hs hf
  obtain rfl : q = p - 1 := by omega
  obtain rfl : x = z := Option.some.inj (hx.symm.trans hz)
  obtain ⟨f, rfl⟩ : ∃ f, fuel = f + 1 := ⟨fuel - 1, by omega⟩
  unfold lineP
  rw [if_neg o9, hn, Int.toNat_natCast, if_neg (fun hh => by
   obtain ⟨r, h1, h2⟩ := hpre x hh
   exact hdist r (p - 1) x h1 hq h2 hx)]
  have hux : up t x = some s := by
   have h3 := zcG t (p - 1) 1 s
   rw [show p - 1 + 1 = p by omega, h, hx] at h3
   have h4 : some s = (up t x).bind (it t 0) := h3
   cases hu : up t x with
   | none => rw [hu] at h4; cases h4
   | some j => rw [hu] at h4; exact h4.symm
  have hi := (zcA hux).2.2
  have : lineP t f (pre ++ [x]) (clsAt t x).f1 = [] := by
   cases f with
   | zero => rfl
   | succ f =>
    unfold lineP
    rw [if_neg o9, hi, Int.toNat_natCast, if_pos]
    rcases Nat.eq_zero_or_pos (p - 1) with h0 | h0
    ·
     rw [h0] at hx
     cases hx
     simp
    ·
     exact List.mem_append_left _ (hs h0)
  rw [this]; rfl
 | succ d ih =>
  intro q x pre fuel nm hd hq hx hn hpre hs hf
  obtain ⟨f, rfl⟩ : ∃ f, fuel = f + 1 := ⟨fuel - 1, by omega⟩
  unfold lineP
  rw [if_neg o9, hn, Int.toNat_natCast, if_neg (fun hh => by
   obtain ⟨r, h1, h2⟩ := hpre x hh
   exact hdist r q x h1 hq h2 hx)]
  have hq1 := zev hp h (q + 1)
  obtain ⟨y, hy⟩ := Option.isSome_iff_exists.1 hq1
  have hux : up t x = some y := by
   have h3 := zcG t q 1 s
   rw [hy, hx] at h3
   have h4 : some y = (up t x).bind (it t 0) := h3
   cases hu : up t x with
   | none => rw [hu] at h4; cases h4
   | some j => rw [hu] at h4; exact h4.symm
  have h1 := ih (q + 1) y (pre ++ [x]) f _ o9 o9 hy (zcA hux).2.2 (fun w hw => by
   rcases List.mem_append.1 hw with hw | hw
   ·
    obtain ⟨r, h1, h2⟩ := hpre w hw
    exact ⟨r, by omega, h2⟩
   ·
    rw [List.mem_singleton.1 hw]; exact ⟨q, by omega, hx⟩) (fun _ => by
   rcases Nat.eq_zero_or_pos q with h0 | h0
   ·
    subst h0
    cases hx
    simp
   ·
    exact List.mem_append_left _ (hs h0)) o9
  rw [List.getLast?_cons, h1]; rfl
theorem zh0 {t : List Cl} {nm : ByteArray} {z : Nat} (h : (lineL t nm).getLast? = some z) : lastN t nm = (clsAt t z).f0 := by
 have h0 : (supL t nm).length = (lineL t nm).length := by simp [supL]
 have hne : lineL t nm ≠ [] := fun e => by rw [e] at h; cases h
 have hp := List.length_pos_iff.2 hne
 unfold lastN rdOf
 rw [show ((((supL t nm).length : Int) - 1)).toNat = (lineL t nm).length - 1 by omega, List.getD_eq_getElem?_getD]
 unfold supL
 rw [List.getElem?_map]
 rw [List.getLast?_eq_getElem?] at h
 rw [h]; rfl
theorem Good.ziV {t : List Cl} (g : Good t) {s : Nat} (hs : s < t.length) (p : Nat) (hp : 1 ≤ p) : it t p s ≠ some s := fun h => by
 obtain ⟨p, hp, h, hm⟩ := zix p hp h
 obtain ⟨z, hz⟩ := Option.isSome_iff_exists.1 (zev hp h (p - 1))
 have hzl := it_lt t _ _ _ hs hz
 have hux : up t z = some s := by
  have h3 := zcG t (p - 1) 1 s
  rw [show p - 1 + 1 = p by omega, h, hz] at h3
  have h4 : some s = (up t z).bind (it t 0) := h3
  cases hu : up t z with
  | none => rw [hu] at h4; cases h4
  | some j => rw [hu] at h4; exact h4.symm
 have hple : p ≤ t.length := by
  have hn : ((List.range p).map fun j => (it t j s).getD 0).Nodup := by
   refine List.pairwise_map.2 (List.Pairwise.imp_of_mem ?_ List.pairwise_lt_range)
   intro a b ha hb hab e
   obtain ⟨x, hx⟩ := Option.isSome_iff_exists.1 (zev hp h a)
   obtain ⟨y, hy⟩ := Option.isSome_iff_exists.1 (zev hp h b)
   rw [hx, hy] at e
   have exy : x = y := e
   subst exy
   have hbp := List.mem_range.1 hb
   have h3 := zcG t b (p - b) s
   rw [show b + (p - b) = p by omega, h, hy] at h3
   have h4 := zcG t a (p - b) s
   rw [hx] at h4
   exact hm (a + (p - b)) o9 o9 (h4.trans h3.symm)
  have := zdl _ (List.range t.length) hn (fun x hx => by
   obtain ⟨j, _, rfl⟩ := List.mem_map.1 hx
   obtain ⟨y, hy⟩ := Option.isSome_iff_exists.1 (zev hp h j)
   rw [hy]
   exact List.mem_range.2 (it_lt t _ _ _ hs hy))
  simpa using this
 have hl := zhO hp h hm z hz (p - 1) 0 s [] (t.length + 1) (clsAt t s).f0 o9 o9 rfl (g.first s hs) (fun y hy => by cases hy) (fun h => absurd h o9) o9
 have h5 := zh0 (nm := (clsAt t s).f0) hl
 have h6 := g.lin s hs
 unfold zey at h6
 rw [h5] at h6
 have h7 : at1 t (clsAt t z).f0 = (z : Int) := by unfold at1; rw [g.first z hzl, if_neg o9]
 rw [h7, Int.toNat_natCast, (zcA hux).2.1] at h6
 by_cases h8 : ¬ (clsAt t s).f1.toList = [] ∧ is1 t (clsAt t s).f1 = false
 ·
  rw [if_pos h8] at h6; exact absurd h6 d9
 ·
  rw [if_neg h8, if_pos rfl] at h6; exact absurd h6 d9
theorem Good.ends {t : List Cl} (g : Good t) {i : Nat} (hi : i < t.length) : it t t.length i = none := by
 cases hx : it t t.length i with
 | none => rfl
 | some x =>
  exfalso
  have hs : ∀ j, j ≤ t.length → ∃ y, it t j i = some y := fun j hj => by
   have h1 := zcG t j (t.length - j) i
   rw [show j + (t.length - j) = t.length by omega, hx] at h1
   cases hy : it t j i with
   | none => rw [hy] at h1; cases h1
   | some y => exact ⟨y, rfl⟩
  have hn : ((List.range (t.length + 1)).map fun j => (it t j i).getD 0).Nodup := by
   refine List.pairwise_map.2 (List.Pairwise.imp_of_mem ?_ List.pairwise_lt_range)
   intro a b ha hb hab e
   obtain ⟨x, hx⟩ := hs a (by have := List.mem_range.1 ha; omega)
   obtain ⟨y, hy⟩ := hs b (by have := List.mem_range.1 hb; omega)
   rw [hx, hy] at e
   have exy : x = y := e
   subst exy
   have h1 := zcG t a (b - a) i
   rw [show a + (b - a) = b by omega, hx, hy] at h1
   exact g.ziV (it_lt t _ _ _ hi hx) (b - a) o9 h1.symm
  have := zdl _ (List.range t.length) hn (fun x hx => by
   obtain ⟨j, hj, rfl⟩ := List.mem_map.1 hx
   obtain ⟨y, hy⟩ := hs j (by have := List.mem_range.1 hj; omega)
   rw [hy]
   exact List.mem_range.2 (it_lt t _ _ _ hi hy))
  simp only [List.length_map, List.length_range] at this
  omega
theorem Good.line {t : List Cl} (g : Good t) {i : Nat} (hi : i < t.length) : lineL t (clsAt t i).f0 = i :: lineL t (clsAt t i).f1 := by
 obtain ⟨m, hm⟩ : ∃ m, t.length = m + 1 := ⟨t.length - 1, by omega⟩
 have hd := g.ends hi
 rw [hm] at hd
 have h1 : lineL t (clsAt t i).f0 = path t m i := zfi t m i [] _ _ (g.first i hi) hd (fun q hq => by cases hq) o9
 rw [h1]
 cases hu : up t i with
 | none =>
  have h2 : lineL t (clsAt t i).f1 = [] := zcY t _ _ _ (zeN hu)
  rw [h2]
  cases m with
  | zero => rfl
  | succ m => simp [path, hu]
 | some j =>
  have hj := g.ends (zcA hu).1
  rw [hm] at hj
  have h2 : lineL t (clsAt t i).f1 = path t m j := zfi t m j [] _ _ (zcA hu).2.2 hj (fun q hq => by cases hq) o9
  rw [h2]
  cases m with
  | zero => simp [it, hu] at hd
  | succ m =>
   have hd' : it t (m + 1) j = none := by
    have : it t (m + 1 + 1) i = (up t i).bind (it t (m + 1)) := rfl
    rw [this, hu] at hd
    exact hd
   rw [zfo t m j hd']
   simp [path, hu]
theorem Good.zh3 {t : List Cl} (g : Good t) {P : ByteArray → Prop} (h0 : ∀ nm, idxC nm t 0 < 0 → P nm) (hs : ∀ i, i < t.length → P (clsAt t i).f1 → P (clsAt t i).f0) (nm : ByteArray) : P nm := by
 have key : ∀ m i, i < t.length → it t m i = none → P (clsAt t i).f0 := by
  intro m
  induction m with
  | zero => intro i hi h; cases h
  | succ m ih =>
   intro i hi h
   refine hs i hi ?_
   cases hu : up t i with
   | none => exact h0 _ (zeN hu)
   | some j =>
    rw [(zcA hu).2.1]
    have : it t (m + 1) i = (up t i).bind (it t m) := rfl
    rw [this, hu] at h
    exact ih j (zcA hu).1 h
 by_cases hn : idxC nm t 0 < 0
 ·
  exact h0 nm hn
 ·
  obtain ⟨h1, h2, _⟩ := zch nm t hn
  rw [← bl h2]
  exact key _ _ h1 (g.ends h1)
theorem ze8 {t : List Cl} {nm : ByteArray} (h : idxC nm t 0 < 0) : lineL t nm = [] := zcY t _ _ _ h
theorem Good.fields {t : List Cl} (g : Good t) {i : Nat} (hi : i < t.length) : zbe t (clsAt t i).f0 = zbe t (clsAt t i).f1 ++ (clsAt t i).f2 := by
 unfold zbe zb4
 rw [g.line hi, List.reverse_cons, List.flatMap_append]
 simp
theorem Good.meths {t : List Cl} (g : Good t) {i : Nat} (hi : i < t.length) : zbN t (clsAt t i).f0 = (clsAt t i).f3.foldl putS (zbN t (clsAt t i).f1) := by
 unfold zbN zff
 rw [g.line hi, List.reverse_cons, List.flatMap_append, List.foldl_append]
 simp
theorem Good.zid {t : List Cl} (g : Good t) {i : Nat} (hi : i < t.length) (nm : ByteArray) : methodAt t nm (lineL t (clsAt t i).f0) = if idxS nm (clsAt t i).f3 0 < 0 then methodAt t nm (lineL t (clsAt t i).f1) else some i := by
 unfold methodAt
 rw [g.line hi]
 by_cases h : idxS nm (clsAt t i).f3 0 < 0
 ·
  rw [if_pos h, List.find?_cons_of_neg (by simpa using h)]
 ·
  rw [if_neg h, List.find?_cons_of_pos (by simpa using h)]
theorem uniq {α β : Type} (f : α → β) : ∀ {l : List α}, (l.map f).Nodup → ∀ x ∈ l, ∀ y ∈ l, f x = f y → x = y
 | [], _, x, hx, _, _, _ => by cases hx
 | z :: r, hd, x, hx, y, hy, e => by
  rw [List.map_cons, List.nodup_cons] at hd
  rcases List.mem_cons.1 hx with rfl | hx1
  ·
   rcases List.mem_cons.1 hy with rfl | hy1
   ·
    rfl
   ·
    exact absurd (show f x ∈ r.map f from List.mem_map.2 ⟨y, hy1, e.symm⟩) hd.1
  ·
   rcases List.mem_cons.1 hy with rfl | hy1
   ·
    exact absurd (show f y ∈ r.map f from List.mem_map.2 ⟨x, hx1, e⟩) hd.1
   ·
    exact uniq f hd.2 x hx1 y hy1 e
theorem zdb (s : ByteArray) : ∀ (l : List Vr) (i : Nat), (idxV s l i < 0 ∧ ∀ x ∈ l, x.f0 ≠ s) ∨ ∃ j x, l[j]? = some x ∧ x.f0 = s ∧ idxV s l i = ((i + j : Nat) : Int)
 | [], i => .inl ⟨by simp [idxV], fun x h => by cases h⟩
 | y :: r, i => by
  unfold idxV
  by_cases hy : y.f0.toList = s.toList
  ·
   rw [if_pos hy]; exact .inr ⟨0, y, rfl, bl hy, by simp⟩
  ·
   rw [if_neg hy]
   rcases zdb s r (i + 1) with ⟨h1, h2⟩ | ⟨j, x, h1, h2, h3⟩
   ·
    refine .inl ⟨h1, fun x hx => ?_⟩
    rcases List.mem_cons.1 hx with rfl | hx
    ·
     exact fun e => hy (by rw [e])
    ·
     exact h2 x hx
   ·
    exact .inr ⟨j + 1, x, h1, h2, by rw [h3]; congr 1; omega⟩
theorem fV_in {nm : ByteArray} {l : List Vr} {x : Vr} (hx : x ∈ l) (hn : x.f0 = nm) : ¬ idxV nm l 0 < 0 ∧ zcH nm l ∈ l ∧ (zcH nm l).f0 = nm := by
 rcases zdb nm l 0 with ⟨_, h2⟩ | ⟨j, y, h1, h2, h3⟩
 ·
  exact absurd hn (h2 x hx)
 ·
  rw [Nat.zero_add] at h3
  have h4 : ¬ idxV nm l 0 < 0 := by omega
  have h5 : zcH nm l = y := by
   unfold zcH
   rw [if_neg h4, h3]
   unfold za0
   rw [Int.toNat_natCast, List.getD_eq_getElem?_getD, h1]; rfl
  rw [h5]
  exact ⟨h4, List.mem_of_getElem? h1, h2⟩
theorem zje {nm : ByteArray} {l : List Vr} (h : ∀ x ∈ l, x.f0 ≠ nm) : idxV nm l 0 < 0 ∧ zcH nm l = z74 := by
 rcases zdb nm l 0 with ⟨h1, _⟩ | ⟨j, y, h1, h2, h3⟩
 ·
  exact ⟨h1, by unfold zcH; rw [if_pos h1]⟩
 ·
  exact absurd h2 (h y (List.mem_of_getElem? h1))
theorem fV_is {l : List Vr} (hd : (l.map fun x => x.f0).Nodup) {x : Vr} (hx : x ∈ l) : zcH x.f0 l = x := by
 obtain ⟨_, h1, h2⟩ := fV_in hx rfl
 exact uniq (fun x : Vr => x.f0) hd _ h1 _ hx h2
theorem zd4 (s : ByteArray) : ∀ (l : List Sg) (i : Nat), (idxS s l i < 0 ∧ ∀ x ∈ l, x.f0 ≠ s) ∨ ∃ j x, l[j]? = some x ∧ x.f0 = s ∧ idxS s l i = ((i + j : Nat) : Int)
 | [], i => .inl ⟨by simp [idxS], fun x h => by cases h⟩
 | y :: r, i => by
  unfold idxS
  by_cases hy : y.f0.toList = s.toList
  ·
   rw [if_pos hy]; exact .inr ⟨0, y, rfl, bl hy, by simp⟩
  ·
   rw [if_neg hy]
   rcases zd4 s r (i + 1) with ⟨h1, h2⟩ | ⟨j, x, h1, h2, h3⟩
   ·
    refine .inl ⟨h1, fun x hx => ?_⟩
    rcases List.mem_cons.1 hx with rfl | hx
    ·
     exact fun e => hy (by rw [e])
    ·
     exact h2 x hx
   ·
    exact .inr ⟨j + 1, x, h1, h2, by rw [h3]; congr 1; omega⟩
theorem fS_in {nm : ByteArray} {l : List Sg} {x : Sg} (hx : x ∈ l) (hn : x.f0 = nm) : ¬ idxS nm l 0 < 0 ∧ zcF nm l ∈ l ∧ (zcF nm l).f0 = nm := by
 rcases zd4 nm l 0 with ⟨_, h2⟩ | ⟨j, y, h1, h2, h3⟩
 ·
  exact absurd hn (h2 x hx)
 ·
  rw [Nat.zero_add] at h3
  have h4 : ¬ idxS nm l 0 < 0 := by omega
  have h5 : zcF nm l = y := by
   unfold zcF
   rw [if_neg h4, h3]
   unfold zaR
   rw [Int.toNat_natCast, List.getD_eq_getElem?_getD, h1]; rfl
  rw [h5]
  exact ⟨h4, List.mem_of_getElem? h1, h2⟩
theorem zh7 {nm : ByteArray} {l : List Sg} (h : ∀ x ∈ l, x.f0 ≠ nm) : idxS nm l 0 < 0 ∧ zcF nm l = z57 := by
 rcases zd4 nm l 0 with ⟨h1, _⟩ | ⟨j, y, h1, h2, h3⟩
 ·
  exact ⟨h1, by unfold zcF; rw [if_pos h1]⟩
 ·
  exact absurd h2 (h y (List.mem_of_getElem? h1))
theorem fS_is {l : List Sg} (hd : (l.map fun x => x.f0).Nodup) {x : Sg} (hx : x ∈ l) : zcF x.f0 l = x := by
 obtain ⟨_, h1, h2⟩ := fS_in hx rfl
 exact uniq (fun x : Sg => x.f0) hd _ h1 _ hx h2
theorem zdN (s : ByteArray) : ∀ (l : List Mb) (i : Nat), (idxM s l i < 0 ∧ ∀ x ∈ l, x.f0 ≠ s) ∨ ∃ j x, l[j]? = some x ∧ x.f0 = s ∧ idxM s l i = ((i + j : Nat) : Int)
 | [], i => .inl ⟨by simp [idxM], fun x h => by cases h⟩
 | y :: r, i => by
  unfold idxM
  by_cases hy : y.f0.toList = s.toList
  ·
   rw [if_pos hy]; exact .inr ⟨0, y, rfl, bl hy, by simp⟩
  ·
   rw [if_neg hy]
   rcases zdN s r (i + 1) with ⟨h1, h2⟩ | ⟨j, x, h1, h2, h3⟩
   ·
    refine .inl ⟨h1, fun x hx => ?_⟩
    rcases List.mem_cons.1 hx with rfl | hx
    ·
     exact fun e => hy (by rw [e])
    ·
     exact h2 x hx
   ·
    exact .inr ⟨j + 1, x, h1, h2, by rw [h3]; congr 1; omega⟩
theorem fM_in {nm : ByteArray} {l : List Mb} {x : Mb} (hx : x ∈ l) (hn : x.f0 = nm) : ¬ idxM nm l 0 < 0 ∧ zdh nm l ∈ l ∧ (zdh nm l).f0 = nm := by
 rcases zdN nm l 0 with ⟨_, h2⟩ | ⟨j, y, h1, h2, h3⟩
 ·
  exact absurd hn (h2 x hx)
 ·
  rw [Nat.zero_add] at h3
  have h4 : ¬ idxM nm l 0 < 0 := by omega
  have h5 : zdh nm l = y := by
   unfold zdh
   rw [if_neg h4, h3]
   unfold zbn
   rw [Int.toNat_natCast, List.getD_eq_getElem?_getD, h1]; rfl
  rw [h5]
  exact ⟨h4, List.mem_of_getElem? h1, h2⟩
theorem fM_is {l : List Mb} (hd : (l.map fun x => x.f0).Nodup) {x : Mb} (hx : x ∈ l) : zdh x.f0 l = x := by
 obtain ⟨_, h1, h2⟩ := fM_in hx rfl
 exact uniq (fun x : Mb => x.f0) hd _ h1 _ hx h2
theorem zdM (k : ByteArray) : ∀ (l : List ByteArray) (n : Nat), nidx k l n = none → k ∉ l
 | [], _, _ => by simp
 | x :: r, n, h => by
  unfold nidx at h
  by_cases hk : k = x
  ·
   rw [if_pos hk] at h; cases h
  ·
   rw [if_neg hk] at h
   exact fun hm => (List.mem_cons.1 hm).elim hk (zdM k r (n + 1) h)
abbrev nmS : Sg → ByteArray := fun x => x.f0
theorem zhU {out : List Sg} (m : Sg) (hd : (out.map nmS).Nodup) (x : Sg) : x ∈ putS out m ↔ x = m ∨ (x ∈ out ∧ x.f0 ≠ m.f0) := by
 unfold putS
 cases h : nidx m.f0 (out.map (·.f0)) 0 with
 | none =>
  have h1 := zdM _ _ _ h
  simp only [List.mem_append, List.mem_singleton]
  constructor
  ·
   rintro (h2 | h2)
   ·
    exact .inr ⟨h2, fun e => h1 (List.mem_map.2 ⟨x, h2, e⟩)⟩
   ·
    exact .inl h2
  ·
   rintro (h2 | h2)
   ·
    exact .inr h2
   ·
    exact .inl h2.1
 | some p =>
  obtain ⟨_, h2, h3⟩ := zd2 _ _ 0 p h
  simp only [Nat.sub_zero, List.getElem?_map] at h3
  obtain ⟨y, hy, hyn⟩ := Option.map_eq_some_iff.1 h3
  have hp : p < out.length := (List.getElem?_eq_some_iff.1 hy).1
  constructor
  ·
   intro hx
   obtain ⟨q, hq⟩ := List.getElem?_of_mem hx
   rw [List.getElem?_set] at hq
   by_cases hpq : p = q
   ·
    rw [if_pos hpq, if_pos hp] at hq
    exact .inl (Option.some.inj hq).symm
   ·
    rw [if_neg hpq] at hq
    refine .inr ⟨List.mem_of_getElem? hq, fun e => hpq ?_⟩
    refine (List.getElem?_inj (by simpa using hp) hd).1 ?_
    rw [List.getElem?_map, List.getElem?_map, hy, hq]
    simp [nmS, hyn, e]
  ·
   rintro (rfl | ⟨hx, he⟩)
   ·
    exact List.mem_of_getElem? (i := p) (by rw [List.getElem?_set, if_pos rfl, if_pos hp])
   ·
    obtain ⟨q, hq⟩ := List.getElem?_of_mem hx
    refine List.mem_of_getElem? (i := q) ?_
    rw [List.getElem?_set, if_neg, hq]
    rintro rfl
    rw [hy] at hq
    cases hq
    exact he hyn
theorem ziy {out : List Sg} (m : Sg) (hd : (out.map nmS).Nodup) : ((putS out m).map nmS).Nodup := by
 have h := zdr out m
 show ((putS out m).map (fun x => x.f0)).Nodup
 rw [h]
 cases hn : nidx m.f0 (out.map (·.f0)) 0 with
 | some p => exact hd
 | none =>
  rw [List.nodup_append]
  refine ⟨hd, by simp, fun a ha b hb e => ?_⟩
  rw [List.mem_singleton] at hb
  subst hb
  exact zdM _ _ _ hn (e ▸ ha)
theorem foldS : ∀ (ms out : List Sg), (out.map nmS).Nodup → (ms.map nmS).Nodup → ((ms.foldl putS out).map nmS).Nodup ∧ ∀ x, x ∈ ms.foldl putS out ↔ x ∈ ms ∨ (x ∈ out ∧ x.f0 ∉ ms.map nmS)
 | [], out, hd, _ => ⟨hd, fun x => by simp⟩
 | m :: r, out, hd, hm => by
  rw [List.map_cons, List.nodup_cons] at hm
  obtain ⟨h1, h2⟩ := foldS r (putS out m) (ziy m hd) hm.2
  refine ⟨h1, fun x => ?_⟩
  rw [List.foldl_cons, h2 x, zhU m hd x]
  simp only [List.mem_cons, List.map_cons]
  constructor
  ·
   rintro (h | ⟨rfl | ⟨h3, h4⟩, h5⟩)
   ·
    exact .inl (.inr h)
   ·
    exact .inl (.inl rfl)
   ·
    exact .inr ⟨h3, fun h => h.elim h4 h5⟩
  ·
   rintro ((rfl | h) | ⟨h3, h4⟩)
   ·
    exact .inr ⟨.inl rfl, hm.1⟩
   ·
    exact .inl h
   ·
    exact .inr ⟨.inr ⟨h3, fun e => h4 (.inl e)⟩, fun e => h4 (.inr e)⟩
theorem zdE (nm : ByteArray) (l : List ByteArray) : hasN nm l = true ↔ nm ∈ l := by
 rw [zf2]
 simp only [List.any_eq_true, decide_eq_true_eq]
 exact ⟨fun ⟨x, h1, h2⟩ => bl h2 ▸ h1, fun h => ⟨nm, h, rfl⟩⟩
theorem zhg {t : List Cl} {mb : List Mb} {fs : List ByteArray} {nm ty : ByteArray} (h : zcE t mb fs nm ty = 0) : arB mb nm = false ∧ nm ∉ fs := by
 unfold zcE at h
 by_cases h1 : nm.toList.isEmpty = true
 ·
  rw [if_pos h1] at h; exact absurd h d9
 rw [if_neg h1] at h
 by_cases h2 : ¬ zcd t nm ty = 0
 ·
  rw [if_pos h2] at h; exact absurd h h2
 rw [if_neg h2] at h
 by_cases h3 : arB mb nm = true ∨ hasN nm fs = true
 ·
  rw [if_pos h3] at h; exact absurd h d9
 ·
  exact ⟨by cases hb : arB mb nm with | false => rfl | true => exact absurd (.inl hb) h3, fun e => h3 (.inr ((zdE nm fs).2 e))⟩
theorem zeG (t : List Cl) (mb : List Mb) : ∀ (l : List Vr) (fs : List ByteArray), zcr t mb l fs = 0 → fs.Nodup → (fs ++ l.map fun x => x.f0).Nodup ∧ ∀ v ∈ l, arB mb v.f0 = false
 | [], fs, _, hd => ⟨by simpa using hd, fun v h => by cases h⟩
 | v :: r, fs, h, hd => by
  unfold zcr at h
  by_cases h0 : zcE t mb fs v.f0 v.f1 = 0
  ·
   rw [if_pos h0] at h
   obtain ⟨h1, h2⟩ := zhg h0
   obtain ⟨h3, h4⟩ := zeG t mb r (fs ++ [v.f0]) h (by
    rw [List.nodup_append]
    exact ⟨hd, by simp, fun a ha b hb e => by rw [List.mem_singleton] at hb; subst hb; exact h2 (e ▸ ha)⟩)
   refine ⟨by simpa using h3, fun w hw => ?_⟩
   rcases List.mem_cons.1 hw with rfl | hw
   ·
    exact h1
   ·
    exact h4 w hw
  ·
   rw [if_neg h0] at h; exact absurd h h0
structure MOk (t : List Cl) (su : ByteArray) (fs : List ByteArray) (m : Sg) : Prop where
 fb : zbE t su m.f0 = false
 fs : m.f0 ∉ fs
 over : (methodAt t m.f0 (lineL t su)).isSome = true → (methM t m.f0 (methodAt t m.f0 (lineL t su))).f2 = m.f2 ∧ likeV (methM t m.f0 (methodAt t m.f0 (lineL t su))).f1 m.f1 = true
theorem zgJ {t : List Cl} {su : ByteArray} {fs ms : List ByteArray} {m : Sg} (h : zcc t su fs ms m.f0 m.f1 m.f2 = 0) : MOk t su fs m ∧ m.f0 ∉ ms := by
 unfold zcc at h
 by_cases h1 : nameB m.f0 = false
 ·
  rw [if_pos h1] at h; exact absurd h d9
 rw [if_neg h1] at h
 by_cases h2 : ¬ zcP t m.f1 [] = 0
 ·
  rw [if_pos h2] at h; exact absurd h h2
 rw [if_neg h2] at h
 by_cases h3 : ¬ zcd t ⟨#[]⟩ m.f2 = 0
 ·
  rw [if_pos h3] at h; exact absurd h h3
 rw [if_neg h3] at h
 by_cases h4 : zbE t su m.f0 = true ∨ hasN m.f0 fs = true ∨ hasN m.f0 ms = true
 ·
  rw [if_pos h4] at h; exact absurd h d9
 rw [if_neg h4] at h
 by_cases h5 : (methodAt t m.f0 (lineL t su)).isSome = true ∧ (¬ (methM t m.f0 (methodAt t m.f0 (lineL t su))).f2.toList = m.f2.toList ∨ likeV (methM t m.f0 (methodAt t m.f0 (lineL t su))).f1 m.f1 = false)
 ·
  rw [if_pos h5] at h; exact absurd h d9
 refine ⟨⟨?_, fun e => h4 (.inr (.inl ((zdE _ _).2 e))), fun hs => ⟨?_, ?_⟩⟩, fun e => h4 (.inr (.inr ((zdE _ _).2 e)))⟩
 ·
  cases hb : zbE t su m.f0 with
  | false => rfl
  | true => exact absurd (.inl hb) h4
 ·
  exact bl (Classical.byContradiction fun hc => h5 ⟨hs, .inl hc⟩)
 ·
  cases hb : likeV (methM t m.f0 (methodAt t m.f0 (lineL t su))).f1 m.f1 with
  | true => rfl
  | false => exact absurd ⟨hs, .inr hb⟩ h5
theorem zeg (t : List Cl) (su : ByteArray) (fs : List ByteArray) : ∀ (l : List Sg) (ms : List ByteArray), zcn t su fs l ms = 0 → ms.Nodup → (ms ++ l.map nmS).Nodup ∧ ∀ m ∈ l, MOk t su fs m
 | [], ms, _, hd => ⟨by simpa using hd, fun v h => by cases h⟩
 | m :: r, ms, h, hd => by
  unfold zcn at h
  by_cases h0 : zcc t su fs ms m.f0 m.f1 m.f2 = 0
  ·
   rw [if_pos h0] at h
   obtain ⟨h1, h2⟩ := zgJ h0
   obtain ⟨h3, h4⟩ := zeg t su fs r (ms ++ [m.f0]) h (by
    rw [List.nodup_append]
    exact ⟨hd, by simp, fun a ha b hb e => by rw [List.mem_singleton] at hb; subst hb; exact h2 (e ▸ ha)⟩)
   refine ⟨by simpa [nmS] using h3, fun w hw => ?_⟩
   rcases List.mem_cons.1 hw with rfl | hw
   ·
    exact h1
   ·
    exact h4 w hw
  ·
   rw [if_neg h0] at h; exact absurd h h0
abbrev FN (t : List Cl) (nm : ByteArray) : List ByteArray := (zbe t nm).map fun x => x.f0
abbrev MN (t : List Cl) (nm : ByteArray) : List ByteArray := (zbN t nm).map nmS
theorem zcV (t : List Cl) (c nm : ByteArray) : zbE t c nm = true ↔ nm ∈ FN t c := by
 unfold zbE
 constructor
 ·
  intro h
  rcases zdb nm (zbe t c) 0 with ⟨h1, _⟩ | ⟨j, x, h1, h2, _⟩
  ·
   simp [h1] at h
  ·
   exact List.mem_map.2 ⟨x, List.mem_of_getElem? h1, h2⟩
 ·
  intro h
  obtain ⟨x, h1, h2⟩ := List.mem_map.1 h
  simpa using (fV_in h1 h2).1
theorem zdc (t : List Cl) (c : ByteArray) : (mem t c).map (fun x : Mb => x.f0) = FN t c ++ MN t c := by
 unfold mem
 rw [List.map_append, List.map_map, List.map_map]
 rfl
theorem zfP (t : List Cl) (c nm : ByteArray) : arB (mem t c) nm = true ↔ nm ∈ FN t c ++ MN t c := by
 rw [← zdc]
 unfold arB
 constructor
 ·
  intro h
  rcases zdN nm (mem t c) 0 with ⟨h1, _⟩ | ⟨j, x, h1, h2, _⟩
  ·
   simp [h1] at h
  ·
   exact List.mem_map.2 ⟨x, List.mem_of_getElem? h1, h2⟩
 ·
  intro h
  obtain ⟨x, h1, h2⟩ := List.mem_map.1 h
  simpa using (fM_in h1 h2).1
structure MemOk (t : List Cl) (c : ByteArray) : Prop where
 fn : (FN t c).Nodup
 mn : (MN t c).Nodup
 dj : ∀ x ∈ FN t c, x ∉ MN t c
 at_ : ∀ m ∈ zbN t c, (methodAt t m.f0 (lineL t c)).isSome = true ∧ methM t m.f0 (methodAt t m.f0 (lineL t c)) = m
 no : ∀ x, x ∉ MN t c → methodAt t x (lineL t c) = none
structure OwnOk (t : List Cl) (i : Nat) : Prop where
 fs : ((clsAt t i).f2.map fun x => x.f0).Nodup
 up : ∀ v ∈ (clsAt t i).f2, v.f0 ∉ FN t (clsAt t i).f1 ∧ v.f0 ∉ MN t (clsAt t i).f1
 ms : ((clsAt t i).f3.map nmS).Nodup
 ok : ∀ m ∈ (clsAt t i).f3, MOk t (clsAt t i).f1 ((clsAt t i).f2.map fun x => x.f0) m
theorem Good.ownOk {t : List Cl} (g : Good t) {i : Nat} (hi : i < t.length) : OwnOk t i := by
 have h := g.own i hi
 unfold ownF at h
 by_cases h0 : zcr t (mem t (clsAt t i).f1) (clsAt t i).f2 [] = 0
 ·
  rw [if_pos h0] at h
  obtain ⟨h1, h2⟩ := zeG t _ _ [] h0 List.nodup_nil
  obtain ⟨h3, h4⟩ := zeg t _ _ _ [] h List.nodup_nil
  refine ⟨by simpa using h1, fun v hv => ?_, by simpa using h3, h4⟩
  have h5 : ¬ v.f0 ∈ FN t (clsAt t i).f1 ++ MN t (clsAt t i).f1 := fun e => by
   have := (zfP t (clsAt t i).f1 v.f0).2 e
   rw [h2 v hv] at this
   cases this
  exact ⟨fun e => h5 (List.mem_append_left _ e), fun e => h5 (List.mem_append_right _ e)⟩
 ·
  rw [if_neg h0] at h; exact absurd h h0
theorem Good.memOk {t : List Cl} (g : Good t) (c : ByteArray) : MemOk t c := by
 refine g.zh3 (P := MemOk t) (fun nm h => ?_) (fun i hi ih => ?_) c
 ·
  have hl := ze8 h
  have hf : zbe t nm = [] := by unfold zbe zb4; rw [hl]; rfl
  have hm : zbN t nm = [] := by unfold zbN zff; rw [hl]; rfl
  refine ⟨by simp [FN, hf], by simp [MN, hm], by simp [FN, hf], by simp [hm], fun x _ => by rw [hl]; rfl⟩
 ·
  have o := g.ownOk hi
  have hf := g.fields hi
  have hm := g.meths hi
  obtain ⟨f1, f2⟩ := foldS (clsAt t i).f3 (zbN t (clsAt t i).f1) ih.mn o.ms
  rw [← hm] at f1 f2
  have hFN : FN t (clsAt t i).f0 = FN t (clsAt t i).f1 ++ (clsAt t i).f2.map fun x => x.f0 := by unfold FN; rw [hf, List.map_append]
  refine ⟨?_, f1, fun x hx hxm => ?_, fun m hmm => ?_, fun x hx => ?_⟩
  ·
   rw [hFN, List.nodup_append]
   refine ⟨ih.fn, o.fs, fun a ha b hb e => ?_⟩
   obtain ⟨v, hv, hvb⟩ := List.mem_map.1 hb
   exact (o.up v hv).1 (by rw [hvb, ← e]; exact ha)
  ·
   rw [hFN] at hx
   obtain ⟨m, hmm, hmx⟩ := List.mem_map.1 hxm
   replace hmx : m.f0 = x := hmx
   subst hmx
   rcases (f2 m).1 hmm with h1 | ⟨h1, _⟩
   ·
    have ok := o.ok m h1
    rcases List.mem_append.1 hx with h2 | h2
    ·
     have := (zcV t (clsAt t i).f1 m.f0).2 h2
     rw [ok.fb] at this
     cases this
    ·
     exact ok.fs h2
   ·
    rcases List.mem_append.1 hx with h2 | h2
    ·
     exact ih.dj _ h2 (List.mem_map.2 ⟨m, h1, rfl⟩)
    ·
     obtain ⟨v, hv, hvb⟩ := List.mem_map.1 h2
     exact (o.up v hv).2 (by rw [hvb]; exact List.mem_map.2 ⟨m, h1, rfl⟩)
  ·
   rw [g.zid hi]
   rcases (f2 m).1 hmm with h1 | ⟨h1, h2⟩
   ·
    rw [if_neg (fS_in h1 rfl).1]
    exact ⟨rfl, fS_is o.ms h1⟩
   ·
    rw [if_pos (zh7 (fun x hx e => h2 (List.mem_map.2 ⟨x, hx, e⟩))).1]
    exact ih.at_ m h1
  ·
   rw [g.zid hi]
   have h1 : ∀ y ∈ (clsAt t i).f3, y.f0 ≠ x := fun y hy e => hx (List.mem_map.2 ⟨y, (f2 y).2 (.inl hy), e⟩)
   rw [if_pos (zh7 h1).1]
   refine ih.no x fun hxm => ?_
   obtain ⟨m, hmm, hmx⟩ := List.mem_map.1 hxm
   replace hmx : m.f0 = x := hmx
   refine hx (List.mem_map.2 ⟨m, (f2 m).2 (.inr ⟨hmm, fun e => ?_⟩), hmx⟩)
   obtain ⟨y, hy, hyx⟩ := List.mem_map.1 e
   exact h1 y hy (hyx.trans hmx)
theorem zha : ∀ (l m : List Vr), eqV l m = true → ∀ (k : Nat) (x y : Vr), l[k]? = some x → m[k]? = some y → x.f1 = y.f1
 | [], _, _, k, x, y, hx, _ => by simp at hx
 | a :: l, [], _, k, x, y, _, hy => by simp at hy
 | a :: l, b :: m, h, 0, x, y, hx, hy => by
  unfold eqV at h
  simp only [Bool.and_eq_true, beq_iff_eq] at h
  cases hx
  cases hy
  exact bl h.1
 | a :: l, b :: m, h, k + 1, x, y, hx, hy => by
  unfold eqV at h
  simp only [Bool.and_eq_true, beq_iff_eq] at h
  exact zha l m h.2 k x y hx hy
theorem zhQ {l m : List Vr} (h : likeV l m = true) : l.length = m.length ∧ ∀ (k : Nat) (x y : Vr), l[k]? = some x → m[k]? = some y → x.f1 = y.f1 := by
 unfold likeV at h
 simp only [Bool.and_eq_true, decide_eq_true_eq] at h
 exact ⟨h.1, zha l m h.2⟩
theorem zgO {α β : Type} {F : α → Nat → Option β} {v : α → β} : ∀ l : List α, (∀ c ∈ l, Evn (F c) (v c)) → ∃ K, ∀ k, K ≤ k → ∀ c ∈ l, F c k = some (v c)
 | [], _ => ⟨0, fun _ _ c h => by cases h⟩
 | x :: r, h => by
  obtain ⟨K1, h1⟩ := h x List.mem_cons_self
  obtain ⟨K2, h2⟩ := zgO r (fun c hc => h c (List.mem_cons_of_mem _ hc))
  refine ⟨max K1 K2, fun k hk c hc => ?_⟩
  rcases List.mem_cons.1 hc with rfl | hc
  ·
   exact h1 k o9
  ·
   exact h2 k o9 c hc
theorem zin {c : Cl} (h : okC c) : zas.fits c = true := by
 obtain ⟨h0, h1, h2, h3, h4, h5⟩ := h
 unfold zas.fits
 simp only [Bool.and_eq_true, decide_eq_true_eq, List.all_eq_true]
 refine ⟨⟨⟨⟨⟨by omega, by omega⟩, by omega⟩, fun v hv => ?_⟩, by omega⟩, fun m hm => ?_⟩
 ·
  have := h4 v hv; omega
 ·
  obtain ⟨q0, q1, q2, q3⟩ := h5 m hm
  exact ⟨⟨⟨by omega, by omega⟩, by omega⟩, fun p hp => by have := q3 p hp; omega⟩
theorem zf0 {t : List Cl} (ht : TS t) : Evn (fun k => zas.f k t) ((zbZ t (mem t)).1, ((zbZ t (mem t)).2 : Int)) := by
 obtain ⟨K, hK⟩ := zgO (F := fun (c : Cl) k => zar.f k t c.f1) (v := fun c => mem t c.f1) t (fun c _ => zdq ht.toTB c.f1)
 refine ⟨K, fun k hk => ?_⟩
 have hm : ∀ c ∈ t, zas.mb k t c.f1 = mem t c.f1 := fun c hc => by unfold zas.mb; rw [hK k hk c hc]; rfl
 have ho : zas.ok k t = true := by
  unfold zas.ok
  simp only [Bool.and_eq_true, decide_eq_true_eq, List.all_eq_true]
  refine ⟨ht.toTB.small, fun c hc => ⟨⟨⟨zin (ht.ok c hc), ?_⟩, ?_⟩, ?_⟩⟩
  ·
   have := ht.toTB.fields c.f1; omega
  ·
   rw [hK k hk c hc]; rfl
  ·
   rw [hm c hc]; have := zfJ ht.toTB c.f1; omega
 show zas.f k t = _
 unfold zas.f
 rw [if_pos ho, zas.zia t (zas.mb k t) (mem t) (fun i hi => hm _ (zdS t i hi))]
theorem zhD {t : List Cl} (ht : TB t) (c nm : ByteArray) : Evn (fun k => za3.f k t c nm) (arN (mem t c) nm, arB (mem t c) nm) := by
 refine Evn.bind (h := fun k L => if L.length < 4398046511104 then some (arN L nm, arB L nm) else none) (zdq ht c) ?_
 exact Evn.pos (by have := zfJ ht c; omega) (Evn.ret _)
theorem zgQ {t : List Cl} (ht : TB t) (c nm : ByteArray) : zbr.f t c nm = some (zbG t c nm, zbE t c nm) := by
 unfold zbr.f
 rw [if_pos ⟨by have := ht.len; omega, by have := ht.fields c; omega⟩]
abbrev mAt (t : List Cl) (c nm : ByteArray) : Option Nat := methodAt t nm (lineL t c)
theorem ziG (a n : Int) (h : 0 < n) (hn : n ≤ 1000) (ha : (Lit.int .i64 a).wf = true) : ∃ p, zbq.f a n = some p ∧ 0 ≤ p ∧ p < n := by
 have h1 := Int.tmod_lt_of_pos a h
 have h3 : -n < a.tmod n := by
  have := Int.tmod_lt_of_pos (-a) h
  rw [Int.neg_tmod] at this
  omega
 unfold zbq.f
 rw [if_neg o9, if_neg o9]
 by_cases h2 : a.tmod n < 0
 ·
  rw [if_pos h2]
  exact ⟨_, rfl, by unfold wrap64; omega, by unfold wrap64; omega⟩
 ·
  rw [if_neg h2]; exact ⟨_, rfl, by omega, h1⟩
theorem zjb {t : List Cl} {c nm : ByteArray} {p : Nat} (h : mAt t c nm = some p) : p < t.length := zbW t _ _ _ _ (List.mem_of_find?_eq_some h)
theorem MemOk.nd {t : List Cl} {c : ByteArray} (h : MemOk t c) : ((mem t c).map fun x : Mb => x.f0).Nodup := by
 rw [zdc, List.nodup_append]
 exact ⟨h.fn, h.mn, fun a ha b hb e => h.dj a ha (e ▸ hb)⟩
theorem zg0 {t : List Cl} {c : ByteArray} {x : Mb} (hx : x ∈ mem t c) : (∃ v ∈ zbe t c, x = ⟨v.f0, -1⟩) ∨ ∃ m ∈ zbN t c, x = ⟨m.f0, (m.f1.length : Int)⟩ := by
 unfold mem at hx
 rcases List.mem_append.1 hx with h | h
 ·
  obtain ⟨v, hv, e⟩ := List.mem_map.1 h
  exact .inl ⟨v, hv, e.symm⟩
 ·
  obtain ⟨m, hm, e⟩ := List.mem_map.1 h
  exact .inr ⟨m, hm, e.symm⟩
section
variable {t : List Cl} (g : Good t)
include g
theorem Good.ar (c : ByteArray) {x : Mb} (hx : x ∈ mem t c) : arN (mem t c) x.f0 = x.f1 ∧ arB (mem t c) x.f0 = true := by
 have h := fM_is (g.memOk c).nd hx
 exact ⟨by unfold arN; rw [h], (zfP t c x.f0).2 (by rw [← zdc]; exact List.mem_map.2 ⟨x, hx, rfl⟩)⟩
theorem Good.zhb (c : ByteArray) {v : Vr} (hv : v ∈ zbe t c) : zbE t c v.f0 = true ∧ mAt t c v.f0 = none ∧ zbG t c v.f0 = v.f1 := by
 have h1 : v.f0 ∈ FN t c := List.mem_map.2 ⟨v, hv, rfl⟩
 exact ⟨(zcV t c _).2 h1, (g.memOk c).no _ ((g.memOk c).dj _ h1), by unfold zbG; rw [fV_is (g.memOk c).fn hv]⟩
theorem Good.ze2 (c : ByteArray) {m : Sg} (hm : m ∈ zbN t c) : zbE t c m.f0 = false ∧ (mAt t c m.f0).isSome = true ∧ methM t m.f0 (mAt t c m.f0) = m ∧ methC t (mAt t c m.f0) ≠ ⟨#[]⟩ := by
 obtain ⟨h1, h2⟩ := (g.memOk c).at_ m hm
 refine ⟨?_, h1, h2, ?_⟩
 ·
  cases hb : zbE t c m.f0 with
  | false => rfl
  | true => exact absurd (List.mem_map.2 ⟨m, hm, rfl⟩) ((g.memOk c).dj _ ((zcV t c _).1 hb))
 ·
  obtain ⟨p, hp⟩ := Option.isSome_iff_exists.1 h1
  show methC t (mAt t c m.f0) ≠ _
  rw [show mAt t c m.f0 = some p from hp]
  exact g.ne p (zjb hp)
end
end Go.Proofs.YtofoegknealilaaDoor.Pure
end

section
namespace Go.Proofs.YtofoegknealilaaDoor.PAll
open Go.RowKit Go.Proofs.YtofoegknealilaaDoorW.PrintWords Go.Proofs.YtofoegknealilaaDoorW.PrintLast Go.Proofs.YtofoegknealilaaDoorW.za4
attribute [local go_sem] zbg zbh zbw zbv za7 za8 zbf zbi
def zaH.l0 : Nat → List (S44) → List ByteArray → Int → Option (List ByteArray)
 | 0, _, _, _ => none
 | k + 1, x0, x3, x4 => if x4 < (x0.length : Int) then (if 0 ≤ x4 then (if x3.length < 8796093022208 then (zaH.l0 k x0 (x3 ++ [(zai x0 x4).f0]) (wrap64 (x4 + 1))) else (none)) else (none)) else (some x3)
def zaH.f (k : Nat) (l0 : List (S44)) : Option (List ByteArray) := zaH.l0 k l0 (([(⟨#[105, 110, 116]⟩ : ByteArray), (⟨#[114, 101, 97, 108]⟩ : ByteArray), (⟨#[98, 111, 111, 108]⟩ : ByteArray), (⟨#[115, 116, 114]⟩ : ByteArray), (⟨#[117, 110, 105, 116]⟩ : ByteArray), (⟨#[63]⟩ : ByteArray)] : List ByteArray)) 0
theorem zaH.zbI : ∀ k, (∀ y0 y1 y2, LeO (zaH.l0 k y0 y1 y2) (zaH.l0 (k + 1) y0 y1 y2))
 | 0 => fun _ _ _ r h => by simp [zaH.l0] at h
 | k + 1 => by
  have ih0 := zaH.zbI k
  ·
   intro y0 y1 y2
   unfold zaH.l0
   repeat' first
   | (with_reducible exact ih0 _ _ _)
   | (with_reducible exact LeO.refl _)
   | (with_reducible exact LeO.none _)
   | (with_reducible refine LeO.ite ?_ ?_)
   | (with_reducible refine LeO.bind ?_ (fun _ => ?_))
   | exact ih0 _ _ _
   | exact LeO.none _
   | refine LeO.ite ?_ ?_
   | refine LeO.bind ?_ (fun _ => ?_)
theorem zaH.mono : ∀ a0 k, LeO (zaH.f k a0) (zaH.f (k + 1) a0) := by
 intro a0 k
 have ih0 := zaH.zbI k
 unfold zaH.f
 repeat' first
   | (with_reducible exact ih0 _ _ _)
   | (with_reducible exact LeO.refl _)
   | (with_reducible exact LeO.none _)
   | (with_reducible refine LeO.ite ?_ ?_)
   | (with_reducible refine LeO.bind ?_ (fun _ => ?_))
   | exact ih0 _ _ _
   | exact LeO.none _
   | refine LeO.ite ?_ ?_
   | refine LeO.bind ?_ (fun _ => ?_)
theorem zaH.calls (k : Nat) (A0 : Option Addr) (c0 : Nat) (l0 : List (S44)) (r : List ByteArray) (w : World) (hr0 : Kd.C k44 w A0 l0.length l0) (hc0 : l0.length ≤ c0) (h : zaH.f k l0 = some r) :
  Calls Tryd.prog 15 #[.slice A0 l0.length c0] w fun e w' => ∃ v0_ : Value, e = .returned (v0_) ∧ Kd.R Kd.string 9 w' w.heap.size (fun _ => True) v0_ r ∧ Below w.heap.size w w' := by
 have HR0 := zaa.mk hr0
 have HC0 := zaa.mk hc0
 clear hr0 hc0
 have HB := zaa.mk (Below.refl w.heap.size w)
 have H : (zaH.l0 k l0 (([(⟨#[105, 110, 116]⟩ : ByteArray), (⟨#[114, 101, 97, 108]⟩ : ByteArray), (⟨#[98, 111, 111, 108]⟩ : ByteArray), (⟨#[115, 116, 114]⟩ : ByteArray), (⟨#[117, 110, 105, 116]⟩ : ByteArray), (⟨#[63]⟩ : ByteArray)] : List ByteArray)) 0) = some r := h
 clear h
 obtain ⟨y177, hy177⟩ : ∃ y_ : List ByteArray, y_ = (([(⟨#[105, 110, 116]⟩ : ByteArray), (⟨#[114, 101, 97, 108]⟩ : ByteArray), (⟨#[98, 111, 111, 108]⟩ : ByteArray), (⟨#[115, 116, 114]⟩ : ByteArray), (⟨#[117, 110, 105, 116]⟩ : ByteArray), (⟨#[63]⟩ : ByteArray)] : List ByteArray)) := ⟨_, rfl⟩
 replace H : (zaH.l0 k l0 y177 0) = some r := by first | (rw [hy177]; with_reducible exact H) | (have H2_ := (Option.bind_some _ _).symm.trans H; rw [hy177]; with_reducible exact H2_) | (have H2_ := (Option.bind_some _ _).symm.trans H; with_reducible exact H2_) | with_reducible exact H | (rw [hy177]; exact H) | exact H
 have Ny177 := zaa.mk hy177
 clear hy177
 have H' := zaa.mk H
 clear H
 go_enter Tryd.func15, Tryd.ntmps15
 go_wp2_with (first | ((with_reducible refine zbp (N := 5) rfl ?_); refine Kd.R_lit Kd.string _ 9 ?hg (N := 5) ?hd (xs := ([(⟨#[105, 110, 116]⟩ : ByteArray), (⟨#[114, 101, 97, 108]⟩ : ByteArray), (⟨#[98, 111, 111, 108]⟩ : ByteArray), (⟨#[115, 116, 114]⟩ : ByteArray), (⟨#[117, 110, 105, 116]⟩ : ByteArray), (⟨#[63]⟩ : ByteArray)] : List ByteArray)) (inner := [.string (⟨#[105, 110, 116]⟩ : ByteArray), .string (⟨#[114, 101, 97, 108]⟩ : ByteArray), .string (⟨#[98, 111, 111, 108]⟩ : ByteArray), .string (⟨#[115, 116, 114]⟩ : ByteArray), .string (⟨#[117, 110, 105, 116]⟩ : ByteArray), .string (⟨#[63]⟩ : ByteArray)]) (ok := fun _ => True) (okp := fun _ => True) ?hr ?hp (fun _ hk => hk) trivial (Below.refl _ _) (Nat.le_refl _) s9 ?_; (case hd => rfl); (case hg => rfl); (case hr => first | (go_simp; done) | (go_simp; rfl)); (case hp => exact (Reps.one (show Kd.M Kd.string _ _ _ (⟨#[105, 110, 116]⟩ : ByteArray) [.string (⟨#[105, 110, 116]⟩ : ByteArray)] from rfl) (Reps.one (show Kd.M Kd.string _ _ _ (⟨#[114, 101, 97, 108]⟩ : ByteArray) [.string (⟨#[114, 101, 97, 108]⟩ : ByteArray)] from rfl) (Reps.one (show Kd.M Kd.string _ _ _ (⟨#[98, 111, 111, 108]⟩ : ByteArray) [.string (⟨#[98, 111, 111, 108]⟩ : ByteArray)] from rfl) (Reps.one (show Kd.M Kd.string _ _ _ (⟨#[115, 116, 114]⟩ : ByteArray) [.string (⟨#[115, 116, 114]⟩ : ByteArray)] from rfl) (Reps.one (show Kd.M Kd.string _ _ _ (⟨#[117, 110, 105, 116]⟩ : ByteArray) [.string (⟨#[117, 110, 105, 116]⟩ : ByteArray)] from rfl) (Reps.one (show Kd.M Kd.string _ _ _ (⟨#[63]⟩ : ByteArray) [.string (⟨#[63]⟩ : ByteArray)] from rfl) (Reps.none _ _)))))))); intro v178 w2 ho3 hb hg_ hnew_; clear hg_ hnew_; (first | rw [← Ny177.out] at ho3 | (simp only [Int.reduceToNat] at ho3; rw [← Ny177.out] at ho3)); have n0_ := zaa.mk (Kd.zbk ho3 (zaL (by repeat (first | (with_reducible first | exact HB.out | apply zad | apply zac | apply zae) | exact HB.out)))); have n1_ := zaa.mk (zaq (by repeat (first | (with_reducible first | exact HB.out | apply zad | apply zac | apply zae) | exact HB.out)) hb); clear HB; have HO179 := n0_; have HB := n1_; clear n0_ n1_; clear hb ho3))
 go_loopg [3, 4] k (fun kq v3 v4 w' => ∃ (x3_1 : List ByteArray) (x4_1 : Int), v4 = .int .i64 x4_1 ∧ zaa (zaH.l0 kq l0 x3_1 x4_1 = some r) ∧ zaa (kq ≤ k) ∧ zaa (Kd.R Kd.string 9 w' w.heap.size (fun _ => True) v3 x3_1) ∧ zaa (Below w.heap.size w w'))
 case atStart => exact ⟨(y177), (0), (by first | rfl | (simp; done) | (simp [*]; done)), H', ⟨Nat.le_refl _⟩, ⟨by (with_reducible repeat (first | apply Kd.zax | apply Kd.zay | apply Kd.zaC)); exact HO179.out⟩, ⟨by repeat (first | (with_reducible first | exact HB.out | apply zad | apply zac | apply zae) | exact HB.out)⟩⟩
 case round =>
  clear H'
  try clear c1
  try clear p2
  obtain ⟨x3_1, x4_1, rfl, HA, HK1, HO_3, HB⟩ := hrel
  cases gk with
  | zero => exact absurd HA.out (by simp [zaH.l0])
  | succ k1 =>
   have H := HA.out
   clear HA
   simp only [zaH.l0] at H
   by_cases c4 : x4_1 < (l0.length : Int)
   ·
    rw [if_pos c4] at H
    have c4b0 : decide (x4_1 < (l0.length : Int)) = true := decide_eq_true c4
    clear c4
    by_cases c5 : 0 ≤ x4_1
    ·
     rw [if_pos c5] at H
     have c5b0 : decide (0 ≤ x4_1) = true := decide_eq_true c5
     clear c5
     by_cases c6 : x3_1.length < 8796093022208
     ·
      rw [if_pos c6] at H
      have LMc6 := zaa.mk c6
      clear c6
      obtain ⟨y181, hy181⟩ : ∃ y_ : List ByteArray, y_ = (x3_1 ++ [(zai l0 x4_1).f0]) := ⟨_, rfl⟩
      replace H : (zaH.l0 k1 l0 y181 (wrap64 (x4_1 + 1))) = some r := by first | (rw [hy181]; with_reducible exact H) | (have H2_ := (Option.bind_some _ _).symm.trans H; rw [hy181]; with_reducible exact H2_) | (have H2_ := (Option.bind_some _ _).symm.trans H; with_reducible exact H2_) | with_reducible exact H | (rw [hy181]; exact H) | exact H
      have Ny181 := zaa.mk hy181
      clear hy181
      have H' := zaa.mk H
      clear H
      have p180 : 0 ≤ (x4_1 : Int) := of_decide_eq_true (by first | (with_reducible assumption) | assumption)
      have q180 : x4_1 < (l0.length : Int) := of_decide_eq_true (by first | (with_reducible assumption) | assumption)
      obtain ⟨ad180, A180_2, c180_2, A180_3, c180_3, e180, hx180_0, hx180_1, hx180_2, hx180_3, hl180_2, hi180_2, hl180_3, hi180_3⟩ := zbF HR0.out x4_1 p180 q180
      cases e180
      replace hx180_0 := (HB.out.cell (World.block_lt_of_cell? w _ hx180_0)).trans hx180_0
      replace hx180_1 := (HB.out.cell (World.block_lt_of_cell? w _ hx180_1)).trans hx180_1
      replace hx180_2 := (HB.out.cell (World.block_lt_of_cell? w _ hx180_2)).trans hx180_2
      replace hx180_3 := (HB.out.cell (World.block_lt_of_cell? w _ hx180_3)).trans hx180_3
      have HR180_2 := zaa.mk hi180_2
      have HC180_2 := zaa.mk hl180_2
      clear hi180_2 hl180_2
      have HR180_3 := zaa.mk hi180_3
      have HC180_3 := zaa.mk hl180_3
      clear hi180_3 hl180_3
      replace p180 := eq_true p180
      replace q180 := eq_true q180
      go_wp2_with (first | ((with_reducible refine zb7 (b := .append) (xs := #[.tmp 12, .tmp 18]) rfl ?_); at_builtin; refine Kd.zdg Kd.string (w0 := w) w.heap.size rfl (.tmp 12) (.tmp 18) 28 9 (.string ⟨#[]⟩) 16 rfl Tryd.underlying28 info9 rfl d9 o9 u3 x3_1 ((zai l0 x4_1).f0) [.string ((zai l0 x4_1).f0)] (fun _ => True) (fun _ => False) rfl rfl ?aP (fun _ hk => hk.elim) ?aF ?aO ?aB ?aS ?aL ?_; (case aP => exact rfl); (case aB => exact (by repeat (first | (with_reducible first | exact HB.out | apply zad | apply zac | apply zae) | exact HB.out))); (case aF => exact (fun _ _ => trivial)); (case aO => exact (by (with_reducible repeat (first | apply Kd.zax | apply Kd.zay | apply Kd.zaC)); exact HO_3.out)); (case aS => exact (zaL (by repeat (first | (with_reducible first | exact HB.out | apply zad | apply zac | apply zae) | exact HB.out)))); (case aL => have := LMc6.out; omega); intro v182 w7 ho hb hg hat; rw [← Ny181.out] at ho; have n0_ := zaa.mk (hb); have n1_ := zaa.mk (ho); clear HB; clear HO_3; have HB := n0_; have HO183 := n1_; clear n0_ n1_; clear ho hb hg hat))
      go_roundg k1
      case measure => have := HK1.out; omega
      case rel => exact ⟨(y181), (wrap64 (x4_1 + 1)), (by first | rfl | (simp; done) | (simp [*]; done)), H', ⟨by have := HK1.out; omega⟩, ⟨by (with_reducible repeat (first | apply Kd.zax | apply Kd.zay | apply Kd.zaC)); exact HO183.out⟩, ⟨by repeat (first | (with_reducible first | exact HB.out | apply zad | apply zac | apply zae) | exact HB.out)⟩⟩
     ·
      rw [if_neg c6] at H
      exact absurd H s9
    ·
     rw [if_neg c5] at H
     exact absurd H s9
   ·
    rw [if_neg c4] at H
    have c4b0 : decide (x4_1 < (l0.length : Int)) = false := decide_eq_false c4
    clear c4
    obtain rfl := Option.some.inj H
    go_wp2
    go_ret
    exact ⟨_, by first | rfl | (simp [zaS, zaT] <;> rfl) | (simp [*, zaS, zaT] <;> rfl), by (with_reducible repeat (first | apply Kd.zax | apply Kd.zay | apply Kd.zaC)); exact HO_3.out, by repeat (first | (with_reducible first | exact HB.out | apply zad | apply zac | apply zae) | exact HB.out)⟩
end Go.Proofs.YtofoegknealilaaDoor.PAll
end

section
namespace Go.Proofs.YtofoegknealilaaDoor.Pure
open Go.RowKit Go.Proofs.YtofoegknealilaaDoor.PAll Go.Proofs.YtofoegknealilaaDoorW.PrintWords Go.Proofs.YtofoegknealilaaDoorW.PrintLast Go.Proofs.YtofoegknealilaaDoorEv Go.Proofs.YtofoegknealilaaDoorTab Go.Proofs.YtofoegknealilaaDoorWords
def okT (t : List Cl) : Bool := ((zbZ t (mem t)).1 == 0) && (((zbZ t (mem t)).2 : Int) == 0)
theorem zgY {t : List Cl} (ht : TS t) (l : List ByteArray) (hl : l.length < 1000000) : Evn (fun k => zaP.f k t l) (okT t && !(l.any fun s => !zbt t s)) := by
 obtain ⟨K, hK⟩ := zf0 ht
 refine Evn.of K fun k hk => ?_
 unfold zaP.f
 have hk2 : zas.f k t = some _ := hK k hk
 rw [if_pos ⟨by have := ht.toTB.len; omega, hl⟩, hk2]
 rfl
theorem zie (s : ByteArray) : ∀ (l : List ByteArray) (i : Nat), zaA.idx s l i = idxN s l i
 | [], _ => rfl
 | x :: r, i => by
  unfold zaA.idx idxN
  rw [zie s r (i + 1)]
theorem zgo (l : List ByteArray) (s : ByteArray) (hl : l.length < 4398046511104) : zaJ.f l s = some (hasN s l) := by
 unfold zaJ.f zaA.f
 rw [if_pos hl, Option.bind_some, zie]; rfl
def subB (t : List Cl) (s u : ByteArray) : Bool := (okT t && !([s, u].any fun s => !zbt t s)) && (decide (s.toList = u.toList) || hasN u (supL t s))
theorem zib {t : List Cl} (ht : TS t) (s u : ByteArray) : Evn (fun k => zan.f k t s u) (subB t s u) := by
 refine Evn.bind (zgY ht [s, u] s9) ?_
 have hlen := ht.toTB.len
 obtain ⟨b, hb⟩ : ∃ b, b = (okT t && !([s, u].any fun s => !zbt t s)) := ⟨_, rfl⟩
 unfold subB
 rw [← hb]
 cases b with
 | false => exact Evn.neg s9 (Evn.ret _)
 | true =>
  refine Evn.pos rfl ?_
  by_cases h : s.toList = u.toList
  ·
   refine Evn.pos h ((Evn.ret _).val ?_)
   simp [h]
  ·
   refine Evn.neg h (Evn.cbind (v := supL t s) ?_ (Evn.cbind (zgo _ _ (zdP t s o9)) ((Evn.ret _).val ?_)))
   ·
    unfold zbs.f; rw [if_pos o9]
   ·
    simp [h]
section
variable {t : List Cl} (g : Good t)
include g
theorem Good.sup {i : Nat} (hi : i < t.length) : supL t (clsAt t i).f0 = (clsAt t i).f0 :: supL t (clsAt t i).f1 := by
 unfold supL
 rw [g.line hi]; rfl
end
theorem ze7 {t : List Cl} (h : okT t = true) : Good t := by
 unfold okT at h
 simp only [Bool.and_eq_true, beq_iff_eq] at h
 exact ziH h.1
theorem zhL {t : List Cl} {s u : ByteArray} (ho : okT t = true) (hs : zbt t s = true) (hu : zbt t u = true) : subB t s u = true ↔ s = u ∨ u ∈ supL t s := by
 unfold subB
 simp only [ho, hs, hu, List.any_cons, List.any_nil, Bool.not_true, Bool.or_false, Bool.not_false, Bool.and_self, Bool.true_and, Bool.or_eq_true, decide_eq_true_eq, zdE]
 exact ⟨fun h => h.imp bl id, fun h => h.imp (congrArg _) id⟩
def tyL (t : List Cl) : List ByteArray := [⟨#[105, 110, 116]⟩, ⟨#[114, 101, 97, 108]⟩, ⟨#[98, 111, 111, 108]⟩, ⟨#[115, 116, 114]⟩, ⟨#[117, 110, 105, 116]⟩, ⟨#[63]⟩] ++ t.map fun c => c.f0
theorem Good.typed {t : List Cl} (g : Good t) {s : ByteArray} (h : s ∈ tyL t) : zbt t s = true := by
 unfold tyL at h
 unfold zbt
 rcases List.mem_append.1 h with h | h
 ·
  simp only [List.mem_cons, List.not_mem_nil, or_false] at h
  rcases h with rfl | rfl | rfl | rfl | rfl | rfl
  ·
   rw [show ((tag2 ⟨#[105, 110, 116]⟩).2 == 0) = true by kernel_rfl, Bool.or_true]
  ·
   rw [show ((tag2 ⟨#[114, 101, 97, 108]⟩).2 == 0) = true by kernel_rfl, Bool.or_true]
  ·
   rw [show ((tag2 ⟨#[98, 111, 111, 108]⟩).2 == 0) = true by kernel_rfl, Bool.or_true]
  ·
   rw [show ((tag2 ⟨#[115, 116, 114]⟩).2 == 0) = true by kernel_rfl, Bool.or_true]
  ·
   rw [show ((tag2 ⟨#[117, 110, 105, 116]⟩).2 == 0) = true by kernel_rfl, Bool.or_true]
  ·
   rw [show ((⟨#[63]⟩ : ByteArray).toList == [63]) = true by kernel_rfl, Bool.or_true, Bool.true_or]
 ·
  obtain ⟨c, hc, rfl⟩ := List.mem_map.1 h
  obtain ⟨i, hi, rfl⟩ := List.mem_iff_getElem.1 hc
  have h1 := g.first i hi
  have e : clsAt t i = t[i] := rdC t i hi
  rw [e] at h1
  have : is1 t t[i].f0 = true := by unfold is1; rw [h1]; simp
  rw [this]; rfl
end Go.Proofs.YtofoegknealilaaDoor.Pure
end

section
namespace Go.Proofs.YtofoegknealilaaDoor.Pure
open Go.RowKit Go.Proofs.YtofoegknealilaaDoor.PAll Go.Proofs.YtofoegknealilaaDoorW.PrintWords Go.Proofs.YtofoegknealilaaDoorW.PrintLast
theorem SubtypeKnown : zab.Pure := ⟨20, by kernel_rfl⟩
end Go.Proofs.YtofoegknealilaaDoor.Pure
end

section
namespace Go.Proofs.YtofoegknealilaaDoor.Pure
open Go.RowKit Go.Proofs.YtofoegknealilaaDoor.PAll Go.Proofs.YtofoegknealilaaDoorW.PrintWords Go.Proofs.YtofoegknealilaaDoorW.PrintLast Go.Proofs.YtofoegknealilaaDoorEv Go.Proofs.YtofoegknealilaaDoorTab Go.Proofs.YtofoegknealilaaDoorWords
theorem zhy : Evn (fun k => zab.f k) true := by
 obtain ⟨K, hK⟩ := SubtypeKnown
 have h : ∀ d, zab.f (K + d) = some true := fun d => by
  induction d with
  | zero => exact hK
  | succ d ih => exact zab.mono (K + d) true ih
 refine Evn.of K fun k hk => ?_
 have := h (k - K)
 rwa [show K + (k - K) = k by omega] at this
theorem zeH (t : List Cl) (mb : ByteArray → List Mb) : ∀ ks : List Nat, (zb9 t mb ks).1 = 0 → (zb9 t mb ks).2 = 0
 | [], _ => rfl
 | k :: r, h => by
  unfold zb9 at h ⊢
  cases hs : scanL (lookF t mb k) (List.range t.length) with
  | none =>
   rw [hs] at h
   exact zeH t mb r h
  | some i =>
   rw [hs] at h
   exact absurd h (zdn _ _ _ hs)
theorem zgt {t : List Cl} (h : (zbZ t (mem t)).1 = 0) : okT t = true := by
 have h2 : (zbZ t (mem t)).2 = 0 := by
  unfold zbZ at h ⊢
  by_cases hl : 40 < t.length
  ·
   rw [if_pos hl] at h; simp at h
  ·
   rw [if_neg hl] at h ⊢; exact zeH t _ _ h
 unfold okT
 rw [h, h2]; rfl
section
variable {t : List Cl} (g : Good t) (ho : okT t = true) {x y z : ByteArray} (hx : x ∈ tyL t) (hy : y ∈ tyL t) (hz : z ∈ tyL t)
include g ho
end
section
variable {t : List Cl} (g : Good t)
include g
structure Same (t : List Cl) (a b : ByteArray) (x : Mb) : Prop where
 ar : arN (mem t a) x.f0 = x.f1 ∧ arB (mem t a) x.f0 = true
 ft : zbG t a x.f0 = zbG t b x.f0
 fb : zbE t a x.f0 = zbE t b x.f0
 ms : (mAt t a x.f0).isSome = (mAt t b x.f0).isSome
 rs : (methM t x.f0 (mAt t a x.f0)).f2 = (methM t x.f0 (mAt t b x.f0)).f2
 ln : (methM t x.f0 (mAt t a x.f0)).f1.length = (methM t x.f0 (mAt t b x.f0)).f1.length
 ps : ∀ (k : Nat) (u v : Vr), (methM t x.f0 (mAt t a x.f0)).f1[k]? = some u → (methM t x.f0 (mAt t b x.f0)).f1[k]? = some v → u.f1 = v.f1
omit g in
theorem zfj {c nm : ByteArray} (h : zbE t c nm = false) : zbG t c nm = z74.f1 := by
 unfold zbG
 rw [(zje (fun x hx e => by
  have := (zcV t c nm).2 (List.mem_map.2 ⟨x, hx, e⟩)
  rw [h] at this
  cases this)).2]
theorem Good.above {i : Nat} (hi : i < t.length) {x : Mb} (hx : x ∈ mem t (clsAt t i).f1) : Same t (clsAt t i).f0 (clsAt t i).f1 x := by
 have o := g.ownOk hi
 have hm := g.meths hi
 obtain ⟨f1, f2⟩ := foldS (clsAt t i).f3 (zbN t (clsAt t i).f1) (g.memOk _).mn o.ms
 rw [← hm] at f1 f2
 rcases zg0 hx with ⟨v, hv, e⟩ | ⟨m, hmm, e⟩
 ·
  subst e
  have hv2 : v ∈ zbe t (clsAt t i).f0 := by rw [g.fields hi]; exact List.mem_append_left _ hv
  obtain ⟨b1, b2, b3⟩ := g.zhb _ hv
  obtain ⟨d1, d2, d3⟩ := g.zhb _ hv2
  have hxm : (⟨v.f0, -1⟩ : Mb) ∈ mem t (clsAt t i).f0 := List.mem_append_left _ (List.mem_map.2 ⟨v, hv2, rfl⟩)
  refine ⟨g.ar _ hxm, d3.trans b3.symm, d1.trans b1.symm, ?_, ?_, ?_, ?_⟩ <;> simp only [b2, d2]
  intro k u w hu hw
  rw [hu] at hw
  cases hw; rfl
 ·
  subst e
  obtain ⟨m', h1, h2, h3, h4, h5⟩ : ∃ m', m' ∈ zbN t (clsAt t i).f0 ∧ m'.f0 = m.f0 ∧ m.f2 = m'.f2 ∧ m.f1.length = m'.f1.length ∧ ∀ (k : Nat) (u v : Vr), m.f1[k]? = some u → m'.f1[k]? = some v → u.f1 = v.f1 := by
   by_cases hn : m.f0 ∈ (clsAt t i).f3.map nmS
   ·
    obtain ⟨m', hm', e⟩ := List.mem_map.1 hn
    replace e : m'.f0 = m.f0 := e
    have ok := o.ok m' hm'
    obtain ⟨_, q1, q2, _⟩ := g.ze2 _ hmm
    rw [← e] at q1 q2
    obtain ⟨r1, r2⟩ := ok.over q1
    rw [show methM t m'.f0 (methodAt t m'.f0 (lineL t (clsAt t i).f1)) = m from q2] at r1 r2
    obtain ⟨r3, r4⟩ := zhQ r2
    exact ⟨m', (f2 m').2 (.inl hm'), e, r1, r3, r4⟩
   ·
    refine ⟨m, (f2 m).2 (.inr ⟨hmm, hn⟩), rfl, rfl, rfl, fun k u v hu hv => ?_⟩
    rw [hu] at hv
    cases hv; rfl
  obtain ⟨b1, b2, b3, _⟩ := g.ze2 _ hmm
  obtain ⟨d1, d2, d3, _⟩ := g.ze2 _ h1
  rw [h2] at d1 d2 d3
  have hxm : (⟨m.f0, (m.f1.length : Int)⟩ : Mb) ∈ mem t (clsAt t i).f0 := List.mem_append_right _ (List.mem_map.2 ⟨m', h1, by rw [h2, h4]⟩)
  refine ⟨g.ar _ hxm, (zfj d1).trans (zfj b1).symm, d1.trans b1.symm, d2.trans b2.symm, ?_, ?_, ?_⟩
  ·
   show (methM t m.f0 _).f2 = (methM t m.f0 _).f2
   rw [b3, d3]; exact h3.symm
  ·
   show (methM t m.f0 _).f1.length = (methM t m.f0 _).f1.length
   rw [b3, d3]; exact h4.symm
  ·
   show ∀ (k : Nat) (u v : Vr), (methM t m.f0 (mAt t (clsAt t i).f0 m.f0)).f1[k]? = some u → (methM t m.f0 (mAt t (clsAt t i).f1 m.f0)).f1[k]? = some v → u.f1 = v.f1
   rw [b3, d3]
   exact fun k u v hu hv => (h5 k v u hv hu).symm
theorem Good.zi0 {c : ByteArray} {x : Mb} (h1 : arB (mem t c) x.f0 = true) (h2 : arN (mem t c) x.f0 = x.f1) : x ∈ mem t c := by
 have h3 := (zfP t c x.f0).1 h1
 rw [← zdc] at h3
 obtain ⟨y, hy, e⟩ := List.mem_map.1 h3
 have h4 := (g.ar c hy).1
 rw [e, h2] at h4
 have : y = x := by
  cases x; cases y
  simp only at e h4
  rw [e, h4]
 rw [← this]; exact hy
theorem Good.has (s : ByteArray) : ∀ u ∈ supL t s, ∀ x ∈ mem t u, x ∈ mem t s ∧ zbG t s x.f0 = zbG t u x.f0 := by
 refine g.zh3 (P := fun s => ∀ u ∈ supL t s, ∀ x ∈ mem t u, x ∈ mem t s ∧ zbG t s x.f0 = zbG t u x.f0) ?_ ?_ s
 ·
  intro nm h u hu
  unfold supL at hu
  rw [ze8 h] at hu; cases hu
 ·
  intro i hi ih u hu x hx
  rw [g.sup hi] at hu
  rcases List.mem_cons.1 hu with rfl | hu
  ·
   exact ⟨hx, rfl⟩
  ·
   obtain ⟨h1, h2⟩ := ih u hu x hx
   have h3 := g.above hi h1
   exact ⟨g.zi0 h3.ar.2 h3.ar.1, h3.ft.trans h2⟩
end
def belL (t : List Cl) (s : ByteArray) (l : List Cl) : List ByteArray := (l.filter fun c => subB t c.f0 s).map fun c => c.f0
theorem zgc (t : List Cl) (s : ByteArray) (l : List Cl) : (belL t s l).length ≤ l.length := by
 unfold belL; rw [List.length_map]; exact List.length_filter_le _ _
theorem zfv {t : List Cl} {s : ByteArray} {i : Nat} (hi : i < t.length) : belL t s (t.take (i + 1)) = belL t s (t.take i) ++ (if subB t t[i].f0 s = true then [t[i].f0] else []) := by
 unfold belL
 rw [List.take_succ_eq_append_getElem hi, List.filter_append, List.map_append]
 by_cases h : subB t t[i].f0 s = true <;> simp [h]
theorem zim {t : List Cl} (ht : TS t) (s : ByteArray) : ∀ (d i : Nat), d = t.length - i → i ≤ t.length → Evn (fun k => zaj.l0 k t s (belL t s (t.take i)) t (t.length : Int) (i : Int)) (belL t s t) := by
 have hl := ht.toTB.len
 intro d
 induction d with
 | zero =>
  intro i hd hi
  obtain rfl : i = t.length := by omega
  refine Evn.succ (Evn.neg o9 ((Evn.ret _).val ?_))
  rw [List.take_length]
 | succ d ih =>
  intro i hd hi
  have hil : i < t.length := by omega
  have hn := zfv (s := s) hil
  have h0 := zgc t s (t.take i)
  rw [List.length_take] at h0
  refine Evn.succ (Evn.pos o9 (Evn.pos o9 (Evn.pos o9 ?_)))
  rw [rdC _ i hil, w1 hil o9]
  refine Evn.bind (zib ht _ s) ?_
  by_cases hs : subB t t[i].f0 s = true
  ·
   rw [if_pos hs] at hn
   refine Evn.pos hs (Evn.pos o9 ?_)
   rw [← hn]
   exact ih (i + 1) o9 o9
  ·
   rw [if_neg hs, List.append_nil] at hn
   refine Evn.neg hs ?_
   rw [← hn]
   exact ih (i + 1) o9 o9
theorem zf5 {t : List Cl} (ht : TS t) (ho : okT t = true) {i : Nat} (hi : i < t.length) : Evn (fun k => zaj.f k t t[i].f0) (belL t t[i].f0 t) := by
 have g := ze7 ho
 have hl := ht.toTB.len
 have h1 := g.first i hi
 have e : clsAt t i = t[i] := rdC t i hi
 rw [e] at h1
 have his : is1 t t[i].f0 = true := by unfold is1; rw [h1]; simp
 have hf : zbT.f t t[i].f0 = some (at1 t t[i].f0, is1 t t[i].f0) := by unfold zbT.f; rw [if_pos o9]
 refine Evn.cbind hf (Evn.pos his (Evn.bind (zgY ht [] s9) ?_))
 obtain ⟨b, hb⟩ : ∃ b, b = (!(okT t && !([].any fun s => !zbt t s))) := ⟨_, rfl⟩
 have hb2 : b = false := by rw [hb, ho]; rfl
 rw [← hb]
 refine Evn.succ (Evn.neg (by rw [hb2]; simp) ?_)
 have := zim ht t[i].f0 t.length 0 rfl o9
 rw [List.take_zero] at this
 exact this
theorem zih {t : List Cl} (ht : TS t) (ho : okT t = true) {i : Nat} (hi : i < t.length) : Evn (fun k => zat.f k t t[i].f0) (((belL t t[i].f0 t).length : Int) == 1) :=
 Evn.bind (zf5 ht ho hi) (Evn.ret _)
section
variable {t : List Cl} (ht : TS t) (ho : okT t = true) {p : Nat} (hp : p < t.length)
include ht ho
theorem zi7 (b : Bool) (s : ByteArray) (L : List ByteArray) (n : Int) (i : Nat) (hi : i < t.length) (hs : ∀ x ∈ mem t s, x ∈ mem t t[i].f0 ∧ zbG t t[i].f0 x.f0 = zbG t s x.f0)
  (hn : Evn (fun k => chaperonlaw06_SubtypeHas.l0 k t b s L n (wrap64 ((i : Int) + 1))) true) :
  ∀ (d j : Nat), d = (mem t s).length - j → j ≤ (mem t s).length → Evn (fun k => chaperonlaw06_SubtypeHas.l1 k t b s L n (i : Int) (mem t s) (j : Int)) true := by
 have g := ze7 ho
 have hl := zfJ ht.toTB s
 intro d
 induction d with
 | zero =>
  intro j hd hj
  exact Evn.succ (Evn.neg o9 hn)
 | succ d ih =>
  intro j hd hj
  have hjl : j < (mem t s).length := by omega
  refine Evn.succ (Evn.pos o9 (Evn.pos o9 (Evn.pos o9 (Evn.pos o9 ?_))))
  rw [rdM _ j hjl, rdC _ i hi, w1 hjl o9]
  obtain ⟨x, hx⟩ : ∃ x, x = (mem t s)[j] := ⟨_, rfl⟩
  have hxm : x ∈ mem t s := by rw [hx]; exact List.getElem_mem hjl
  rw [← hx]
  obtain ⟨h1, h2⟩ := hs x hxm
  obtain ⟨a1, a2⟩ := g.ar _ h1
  refine Evn.bind (zhD ht.toTB t[i].f0 x.f0) (Evn.cbind (zgQ ht.toTB s x.f0) (Evn.cbind (zgQ ht.toTB t[i].f0 x.f0) (Evn.pos a2 (Evn.pos a1 (Evn.pos (congrArg _ h2.symm) ?_)))))
  exact ih (j + 1) o9 o9
include hp
theorem ziZ (b : Bool) (hb : b = true) : ∀ (d i : Nat), d = t.length - i → i ≤ t.length →
  Evn (fun k => chaperonlaw06_SubtypeHas.l0 k t b t[p].f0 (belL t t[p].f0 t) ((belL t t[p].f0 (t.take i)).length : Int) (i : Int)) true := by
 have g := ze7 ho
 have hl := ht.toTB.len
 have hbl := zgc t t[p].f0 t
 have hpt : zbt t t[p].f0 = true := g.typed (List.mem_append.2 (.inr (List.mem_map.2 ⟨_, List.getElem_mem hp, rfl⟩)))
 intro d
 induction d with
 | zero =>
  intro i hd hi
  obtain rfl : i = t.length := by omega
  rw [List.take_length]
  refine Evn.succ (Evn.neg o9 (Evn.pos hb (Evn.pos rfl (Evn.bind (zih ht ho hp) ((Evn.ret _).val ?_)))))
  simp
 | succ d ih =>
  intro i hd hi
  have hil : i < t.length := by omega
  have hsn := zfv (s := t[p].f0) hil
  have hsub : belL t t[p].f0 (t.take (i + 1)) <+: belL t t[p].f0 t := by
   unfold belL
   exact ((List.take_prefix (i + 1) t).filter _).map _
  have h2 := ih (i + 1) o9 o9
  refine Evn.succ (Evn.pos o9 (Evn.pos o9 ?_))
  rw [rdC _ i hil]
  refine Evn.bind (zib ht _ _) ?_
  by_cases hs : subB t t[i].f0 t[p].f0 = true
  ·
   rw [if_pos hs] at hsn
   have hlen : (belL t t[p].f0 (t.take (i + 1))).length = (belL t t[p].f0 (t.take i)).length + 1 := by rw [hsn]; simp
   have hle := hsub.length_le
   have hty : zbt t t[i].f0 = true := g.typed (List.mem_append.2 (.inr (List.mem_map.2 ⟨_, List.getElem_mem hil, rfl⟩)))
   have hrd : rdOf ByteArray.empty (belL t t[p].f0 t) ((belL t t[p].f0 (t.take i)).length : Int) = t[i].f0 := by
    obtain ⟨r, hr⟩ := hsub
    unfold rdOf
    rw [Int.toNat_natCast, ← hr, hsn, List.getD_eq_getElem?_getD]
    simp
   refine Evn.pos hs (Evn.neg o9 (Evn.pos o9 (Evn.pos o9 ?_)))
   rw [hrd]
   obtain ⟨nb, hnb⟩ : ∃ nb, nb = ((t[i].f0).toList != (t[i].f0).toList) := ⟨_, rfl⟩
   rw [← hnb]
   refine Evn.succ (Evn.neg (by rw [hnb]; simp) (Evn.bind (zdq ht.toTB _) ?_))
   have e3 : wrap64 (((belL t t[p].f0 (t.take i)).length : Int) + 1) = ((belL t t[p].f0 (t.take (i + 1))).length : Int) := by rw [hlen]; unfold wrap64; omega
   rw [e3]
   refine zi7 ht ho b _ _ _ i hil ?_ ?_ (mem t t[p].f0).length 0 rfl o9
   ·
    intro x hx
    rcases (zhL ho hty hpt).1 hs with e | m
    ·
     rw [e]; exact ⟨hx, rfl⟩
    ·
     exact g.has _ _ m x hx
   ·
    rw [w1 hil o9]; exact h2
  ·
   rw [if_neg hs, List.append_nil] at hsn
   refine Evn.neg hs ?_
   rw [w1 hil o9, ← hsn]
   exact h2
end
theorem SubtypeHas : chaperonlaw06_SubtypeHas.Pure := by
 intro t a hlen _ ha
 refine Evn.ex (g := fun k => chaperonlaw06_SubtypeHas.f k t a) ?_
 refine Evn.bind zhy ?_
 obtain ⟨bt, h1, h2⟩ := zhI t
 refine Evn.bind h1 ?_
 have hj : Evn (fun k => chaperonlaw06_SubtypeHas.j0 k t a true true) true := Evn.succ (Evn.congr (g' := fun _ => some true) (fun k => rfl) (Evn.ret _))
 cases bt with
 | true => exact Evn.pos rfl hj
 | false =>
  have ht := h2 rfl
  have hl := ht.toTB.len
  refine Evn.neg s9 (Evn.bind (zf0 ht) ?_)
  by_cases h0 : (zbZ t (mem t)).1 = 0
  ·
   have ho := zgt h0
   refine Evn.pos h0 ?_
   obtain ⟨nb, hnb⟩ : ∃ nb, nb = ((t.length : Int) == 0) := ⟨_, rfl⟩
   rw [← hnb]
   by_cases he : t.length = 0
   ·
    have : nb = true := by rw [hnb, he]; rfl
    rw [this]; exact hj
   ·
    obtain ⟨p, hp, p0, p1⟩ := ziG a (t.length : Int) o9 o9 ha
    obtain ⟨i, rfl⟩ := Int.eq_ofNat_of_zero_le p0
    have hi : i < t.length := by omega
    refine Evn.succ (Evn.neg (by rw [hnb]; simpa using he) (Evn.cbind hp (Evn.pos p0 (Evn.pos p1 ?_))))
    rw [rdC _ i hi]
    refine Evn.bind (zf5 ht ho hi) ?_
    have h3 := ziZ ht ho hi true rfl t.length 0 rfl o9
    rw [List.take_zero] at h3
    exact h3
  ·
   exact Evn.neg h0 hj
end Go.Proofs.YtofoegknealilaaDoor.Pure
end
