/- Parts of the proof of one statement, packed: what the program's functions compute. No conditions. -/
import Derived.Test.YtofoegknealilaaDoorKSO1
import Derived.Test.YtofoegknealilaaDoorKSO3
import Derived.Test.YtofoegknealilaaDoorKSO2
set_option linter.unusedSimpArgs false
set_option linter.unusedVariables false
set_option maxRecDepth 100000
set_option maxHeartbeats 8000000
section
namespace Go.Proofs.YtofoegknealilaaDoor.PAll
open Go.RowKit Go.Proofs.YtofoegknealilaaDoorW.PrintWords Go.Proofs.YtofoegknealilaaDoorW.PrintLast Go.Proofs.YtofoegknealilaaDoorW.za5
attribute [local go_sem] zbe zbf zbo zbp za8 za9 zbg zbh
mutual
def zah.l0 : Nat → List (S44) → Int → Option (Bool)
 | 0, _, _ => none
 | k + 1, x0, x3 => if x3 < (x0.length : Int) then (zah.j1 k x0 x3 (decide (x3 < 10))) else (zah.j1 k x0 x3 false)
def zah.j1 : Nat → List (S44) → Int → Bool → Option (Bool)
 | 0, _, _, _ => none
 | k + 1, x0, x3, x14 => if x14 = true then (if 0 ≤ x3 then (if x3 < (x0.length : Int) then (if (((zal x0 x3).f0).size : Int) > 30 then (zah.j2 k x0 x3 true ((zal x0 x3).f0) ((zal x0 x3).f1) ((zal x0 x3).f2) ((zal x0 x3).f3)) else (if (((zal x0 x3).f1).size : Int) > 30 then (zah.j2 k x0 x3 true ((zal x0 x3).f0) ((zal x0 x3).f1) ((zal x0 x3).f2) ((zal x0 x3).f3)) else (if (((zal x0 x3).f2).length : Int) > 7 then (zah.j2 k x0 x3 true ((zal x0 x3).f0) ((zal x0 x3).f1) ((zal x0 x3).f2) ((zal x0 x3).f3)) else (if (((zal x0 x3).f3).length : Int) > 7 then (zah.j2 k x0 x3 true ((zal x0 x3).f0) ((zal x0 x3).f1) ((zal x0 x3).f2) ((zal x0 x3).f3)) else ((zaz.f k ((zal x0 x3).f2)).bind fun t173 => (zah.j2 k x0 x3 t173 ((zal x0 x3).f0) ((zal x0 x3).f1) ((zal x0 x3).f2) ((zal x0 x3).f3))))))) else (none)) else (none)) else (some (decide ((x0.length : Int) > 9)))
def zah.j2 : Nat → List (S44) → Int → Bool → ByteArray → ByteArray → List (S74) → List (S57) → Option (Bool)
 | 0, _, _, _, _, _, _, _ => none
 | k + 1, x0, x3, x47, x173000, x173001, x173002, x173003 => if x47 = true then (some true) else (zah.l1 k x0 x3 0 x173000 x173001 x173002 x173003)
def zah.l1 : Nat → List (S44) → Int → Int → ByteArray → ByteArray → List (S74) → List (S57) → Option (Bool)
 | 0, _, _, _, _, _, _, _ => none
 | k + 1, x0, x3, x5, x173000, x173001, x173002, x173003 => if x5 < (x173003.length : Int) then (if 0 ≤ x5 then (if (((zaV x173003 x5).f0).size : Int) > 30 then (some true) else (if (((zaV x173003 x5).f2).size : Int) > 30 then (some true) else (if (((zaV x173003 x5).f1).length : Int) > 10 then (some true) else ((zaz.f k ((zaV x173003 x5).f1)).bind fun t176 => (if t176 = true then (some true) else (zah.l1 k x0 x3 (wrap64 (x5 + 1)) x173000 x173001 x173002 x173003)))))) else (none)) else (zah.l0 k x0 (wrap64 (x3 + 1)))
end
def zah.f (k : Nat) (l0 : List (S44)) : Option (Bool) := zah.l0 k l0 0
theorem zah.zbO : ∀ k, (∀ y0 y1, LeO (zah.l0 k y0 y1) (zah.l0 (k + 1) y0 y1)) ∧ (∀ y0 y1 y2, LeO (zah.j1 k y0 y1 y2) (zah.j1 (k + 1) y0 y1 y2)) ∧ (∀ y0 y1 y2 y3 y4 y5 y6, LeO (zah.j2 k y0 y1 y2 y3 y4 y5 y6) (zah.j2 (k + 1) y0 y1 y2 y3 y4 y5 y6)) ∧ (∀ y0 y1 y2 y3 y4 y5 y6, LeO (zah.l1 k y0 y1 y2 y3 y4 y5 y6) (zah.l1 (k + 1) y0 y1 y2 y3 y4 y5 y6))
 | 0 => ⟨fun _ _ r h => by simp [zah.l0] at h, fun _ _ _ r h => by simp [zah.j1] at h, fun _ _ _ _ _ _ _ r h => by simp [zah.j2] at h, fun _ _ _ _ _ _ _ r h => by simp [zah.l1] at h⟩
 | k + 1 => by
  obtain ⟨ih0, ih1, ih2, ih3⟩ := zah.zbO k
  refine ⟨?_, ?_, ?_, ?_⟩
  ·
   intro y0 y1
   unfold zah.l0
   repeat' first
   | (with_reducible exact ih0 _ _)
   | (with_reducible exact ih1 _ _ _)
   | (with_reducible exact ih2 _ _ _ _ _ _ _)
   | (with_reducible exact ih3 _ _ _ _ _ _ _)
   | (with_reducible exact zaz.mono _ _)
   | (with_reducible exact LeO.refl _)
   | (with_reducible exact LeO.none _)
   | (with_reducible refine LeO.ite ?_ ?_)
   | (with_reducible refine LeO.bind ?_ (fun _ => ?_))
   | exact ih0 _ _
   | exact ih1 _ _ _
   | exact ih2 _ _ _ _ _ _ _
   | exact ih3 _ _ _ _ _ _ _
   | exact zaz.mono _ _
   | exact LeO.none _
   | refine LeO.ite ?_ ?_
   | refine LeO.bind ?_ (fun _ => ?_)
  ·
   intro y0 y1 y2
   unfold zah.j1
   repeat' first
   | (with_reducible exact ih0 _ _)
   | (with_reducible exact ih1 _ _ _)
   | (with_reducible exact ih2 _ _ _ _ _ _ _)
   | (with_reducible exact ih3 _ _ _ _ _ _ _)
   | (with_reducible exact zaz.mono _ _)
   | (with_reducible exact LeO.refl _)
   | (with_reducible exact LeO.none _)
   | (with_reducible refine LeO.ite ?_ ?_)
   | (with_reducible refine LeO.bind ?_ (fun _ => ?_))
   | exact ih0 _ _
   | exact ih1 _ _ _
   | exact ih2 _ _ _ _ _ _ _
   | exact ih3 _ _ _ _ _ _ _
   | exact zaz.mono _ _
   | exact LeO.none _
   | refine LeO.ite ?_ ?_
   | refine LeO.bind ?_ (fun _ => ?_)
  ·
   intro y0 y1 y2 y3 y4 y5 y6
   unfold zah.j2
   repeat' first
   | (with_reducible exact ih0 _ _)
   | (with_reducible exact ih1 _ _ _)
   | (with_reducible exact ih2 _ _ _ _ _ _ _)
   | (with_reducible exact ih3 _ _ _ _ _ _ _)
   | (with_reducible exact zaz.mono _ _)
   | (with_reducible exact LeO.refl _)
   | (with_reducible exact LeO.none _)
   | (with_reducible refine LeO.ite ?_ ?_)
   | (with_reducible refine LeO.bind ?_ (fun _ => ?_))
   | exact ih0 _ _
   | exact ih1 _ _ _
   | exact ih2 _ _ _ _ _ _ _
   | exact ih3 _ _ _ _ _ _ _
   | exact zaz.mono _ _
   | exact LeO.none _
   | refine LeO.ite ?_ ?_
   | refine LeO.bind ?_ (fun _ => ?_)
  ·
   intro y0 y1 y2 y3 y4 y5 y6
   unfold zah.l1
   repeat' first
   | (with_reducible exact ih0 _ _)
   | (with_reducible exact ih1 _ _ _)
   | (with_reducible exact ih2 _ _ _ _ _ _ _)
   | (with_reducible exact ih3 _ _ _ _ _ _ _)
   | (with_reducible exact zaz.mono _ _)
   | (with_reducible exact LeO.refl _)
   | (with_reducible exact LeO.none _)
   | (with_reducible refine LeO.ite ?_ ?_)
   | (with_reducible refine LeO.bind ?_ (fun _ => ?_))
   | exact ih0 _ _
   | exact ih1 _ _ _
   | exact ih2 _ _ _ _ _ _ _
   | exact ih3 _ _ _ _ _ _ _
   | exact zaz.mono _ _
   | exact LeO.none _
   | refine LeO.ite ?_ ?_
   | refine LeO.bind ?_ (fun _ => ?_)
theorem zah.mono : ∀ a0 k, LeO (zah.f k a0) (zah.f (k + 1) a0) := by
 intro a0 k
 obtain ⟨ih0, ih1, ih2, ih3⟩ := zah.zbO k
 unfold zah.f
 repeat' first
   | (with_reducible exact ih0 _ _)
   | (with_reducible exact ih1 _ _ _)
   | (with_reducible exact ih2 _ _ _ _ _ _ _)
   | (with_reducible exact ih3 _ _ _ _ _ _ _)
   | (with_reducible exact zaz.mono _ _)
   | (with_reducible exact LeO.refl _)
   | (with_reducible exact LeO.none _)
   | (with_reducible refine LeO.ite ?_ ?_)
   | (with_reducible refine LeO.bind ?_ (fun _ => ?_))
   | exact ih0 _ _
   | exact ih1 _ _ _
   | exact ih2 _ _ _ _ _ _ _
   | exact ih3 _ _ _ _ _ _ _
   | exact zaz.mono _ _
   | exact LeO.none _
   | refine LeO.ite ?_ ?_
   | refine LeO.bind ?_ (fun _ => ?_)
theorem zah.calls (k : Nat) (A0 : Option Addr) (c0 : Nat) (l0 : List (S44)) (r : Bool) (w : World) (hr0 : Kd.C k44 w A0 l0.length l0) (hc0 : l0.length ≤ c0) (h : zah.f k l0 = some r) :
  Calls Tryd.prog 14 #[.slice A0 l0.length c0] w fun e w' => e = .returned (.bool r) ∧ Below w.heap.size w w' := by
 have hu44 := Tryd.underlying44
 have hu57 := Tryd.underlying57
 have HR0 := zaa.mk hr0
 have HC0 := zaa.mk hc0
 clear hr0 hc0
 have HB := zaa.mk (Below.refl w.heap.size w)
 have H : (zah.l0 k l0 0) = some r := h
 clear h
 have H' := zaa.mk H
 clear H
 go_enter Tryd.func14, Tryd.ntmps14
 go_wp2
 go_loopg [3] k (fun kq v3 w' => ∃ (x3_1 : Int), v3 = .int .i64 x3_1 ∧ zaa (zah.l0 kq l0 x3_1 = some r) ∧ zaa (kq ≤ k) ∧ zaa (Below w.heap.size w w'))
 case atStart => exact ⟨(0), (by first | rfl | (simp; done) | (simp [*]; done)), H', ⟨Nat.le_refl _⟩, ⟨by repeat (first | (with_reducible first | exact HB.out | apply zac | apply zab | apply zae) | exact HB.out)⟩⟩
 case round =>
  clear H'
  try clear c1
  obtain ⟨x3_1, rfl, HA, HK1, HB⟩ := hrel
  cases gk with
  | zero => exact absurd HA.out (by simp [zah.l0])
  | succ k1 =>
   have H := HA.out
   clear HA
   simp only [zah.l0] at H
   have HC2 := zaa.mk H
   clear H
   go_upto_region 2 with (fail)
   go_cut [14] (fun v14 wc => ∃ (kq : Nat) (x14_1 : Bool), v14 = .bool x14_1 ∧ zaa (zah.j1 kq l0 x3_1 x14_1 = some r) ∧ zaa (kq ≤ k1) ∧ zaa (Below w.heap.size w wc))
   case first =>
    have H := HC2.out
    clear HC2
    by_cases c3 : x3_1 < (l0.length : Int)
    ·
     rw [if_pos c3] at H
     have c3b0 : decide (x3_1 < (l0.length : Int)) = true := decide_eq_true c3
     clear c3
     (first | rw [c3b0] | (simp only [i64_w, i32_w]; rw [c3b0]) | skip)
     have H' := zaa.mk H
     clear H
     go_wp2
     go_meet
     case rel => exact ⟨_, (decide (x3_1 < 10)), (by first | rfl | (simp; done) | (simp [*]; done)), H', ⟨by have := HK1.out; first | omega | exact Nat.le_refl _⟩, ⟨by repeat (first | (with_reducible first | exact HB.out | apply zac | apply zab | apply zae) | exact HB.out)⟩⟩
    ·
     rw [if_neg c3] at H
     have c3b0 : decide (x3_1 < (l0.length : Int)) = false := decide_eq_false c3
     clear c3
     (first | rw [c3b0] | (simp only [i64_w, i32_w]; rw [c3b0]) | skip)
     have H' := zaa.mk H
     clear H
     go_wp2
     go_meet
     case rel => exact ⟨_, (false), (by first | rfl | (simp; done) | (simp [*]; done)), H', ⟨by have := HK1.out; first | omega | exact Nat.le_refl _⟩, ⟨by repeat (first | (with_reducible first | exact HB.out | apply zac | apply zab | apply zae) | exact HB.out)⟩⟩
   case rest =>
    clear HC2
    try clear c1
    try clear p2
    try clear c3
    try clear c3b0
    obtain ⟨kq, x14_1, rfl, HA, HJ1, HB⟩ := hcut
    cases kq with
    | zero => exact absurd HA.out (by simp [zah.j1])
    | succ kj1 =>
     have H := HA.out
     clear HA
     simp only [zah.j1] at H
     by_cases c4 : x14_1 = true
     ·
      subst c4
      have H1 : (if 0 ≤ x3_1 then (if x3_1 < (l0.length : Int) then (if (((zal l0 x3_1).f0).size : Int) > 30 then (zah.j2 kj1 l0 x3_1 true ((zal l0 x3_1).f0) ((zal l0 x3_1).f1) ((zal l0 x3_1).f2) ((zal l0 x3_1).f3)) else (if (((zal l0 x3_1).f1).size : Int) > 30 then (zah.j2 kj1 l0 x3_1 true ((zal l0 x3_1).f0) ((zal l0 x3_1).f1) ((zal l0 x3_1).f2) ((zal l0 x3_1).f3)) else (if (((zal l0 x3_1).f2).length : Int) > 7 then (zah.j2 kj1 l0 x3_1 true ((zal l0 x3_1).f0) ((zal l0 x3_1).f1) ((zal l0 x3_1).f2) ((zal l0 x3_1).f3)) else (if (((zal l0 x3_1).f3).length : Int) > 7 then (zah.j2 kj1 l0 x3_1 true ((zal l0 x3_1).f0) ((zal l0 x3_1).f1) ((zal l0 x3_1).f2) ((zal l0 x3_1).f3)) else ((zaz.f kj1 ((zal l0 x3_1).f2)).bind fun t173 => (zah.j2 kj1 l0 x3_1 t173 ((zal l0 x3_1).f0) ((zal l0 x3_1).f1) ((zal l0 x3_1).f2) ((zal l0 x3_1).f3))))))) else (none)) else (none)) = some r := by rw [if_pos rfl] at H; exact H
      clear H
      have H := H1
      clear H1
      by_cases c5 : 0 ≤ x3_1
      ·
       rw [if_pos c5] at H
       have c5b0 : decide (0 ≤ x3_1) = true := decide_eq_true c5
       clear c5
       by_cases c6 : x3_1 < (l0.length : Int)
       ·
        rw [if_pos c6] at H
        have c6b0 : decide (x3_1 < (l0.length : Int)) = true := decide_eq_true c6
        clear c6
        have HC7 := zaa.mk H
        clear H
        have p171 : 0 ≤ (x3_1 : Int) := of_decide_eq_true (by first | (with_reducible assumption) | assumption)
        have q171 : x3_1 < (l0.length : Int) := of_decide_eq_true (by first | (with_reducible assumption) | assumption)
        obtain ⟨ad171, A171_2, c171_2, A171_3, c171_3, e171, hx171_0, hx171_1, hx171_2, hx171_3, hl171_2, hi171_2, hl171_3, hi171_3⟩ := zbT HR0.out x3_1 p171 q171
        cases e171
        replace hx171_0 := (HB.out.cell (World.block_lt_of_cell? w _ hx171_0)).trans hx171_0
        replace hx171_1 := (HB.out.cell (World.block_lt_of_cell? w _ hx171_1)).trans hx171_1
        replace hx171_2 := (HB.out.cell (World.block_lt_of_cell? w _ hx171_2)).trans hx171_2
        replace hx171_3 := (HB.out.cell (World.block_lt_of_cell? w _ hx171_3)).trans hx171_3
        have HR171_2 := zaa.mk hi171_2
        have HC171_2 := zaa.mk hl171_2
        clear hi171_2 hl171_2
        have HR171_3 := zaa.mk hi171_3
        have HC171_3 := zaa.mk hl171_3
        clear hi171_3 hl171_3
        replace p171 := eq_true p171
        replace q171 := eq_true q171
        go_upto_region 5 with (first | ((with_reducible refine zbl (N := 4) rfl ?_); (try (refine zbN (by rfl) ?_; dsimp only)); refine zbH ?hg (N := 4) ?hd (cs := #[.string (⟨#[]⟩ : ByteArray), .string (⟨#[]⟩ : ByteArray), .slice none 0 0, .slice none 0 0]) (t := 44) ?hr ?_; (case hd => rfl); (case hg => rfl); (case hr => first | (go_simp; done) | (go_simp; rfl)); intro gb172 hg w8 hbox hb; have n0_ := zaa.mk (zai (by repeat (first | (with_reducible first | exact HB.out | apply zac | apply zab | apply zae) | exact HB.out)) hb); have n1_ := zaa.mk (hbox); have n2_ := zaa.mk ((by rw [hg]; exact (zaI (by repeat (first | (with_reducible first | exact HB.out | apply zac | apply zab | apply zae) | exact HB.out))) : w.heap.size ≤ gb172)); have n3_ := zaa.mk ((by rw [hg]; exact (zaI (by repeat (first | (with_reducible first | exact HB.out | apply zac | apply zab | apply zae) | exact HB.out))) : w.heap.size ≤ gb172)); clear HB; have HB := n0_; have BK172 := n1_; have GW172 := n2_; have GE172 := n3_; clear n0_ n1_ n2_ n3_; clear hb hbox hg; have hcz9_0 : w8.cell? ⟨gb172, 0, none⟩ = some (.string (⟨#[]⟩ : ByteArray)) := (zaK BK172.out 0).trans rfl; have hcz9_1 : w8.cell? ⟨gb172, 1, none⟩ = some (.string (⟨#[]⟩ : ByteArray)) := (zaK BK172.out 1).trans rfl; have hcz9_2 : w8.cell? ⟨gb172, 2, none⟩ = some (.slice none 0 0) := (zaK BK172.out 2).trans rfl; have hcz9_3 : w8.cell? ⟨gb172, 3, none⟩ = some (.slice none 0 0) := (zaK BK172.out 3).trans rfl; have hfz9_0 := zaD BK172.out 0; have hfz9_1 := zaD BK172.out 1; have hfz9_2 := zaD BK172.out 2; have hfz9_3 := zaD BK172.out 3))
        (try simp only [Act.put, List.setIfInBounds_toArray, List.set_cons_zero, List.set_cons_succ])
        go_cut [47] (fun v47 wc => ∃ (kq : Nat) (x47_6 : Bool), v47 = .bool x47_6 ∧ zaa (zah.j2 kq l0 x3_1 x47_6 ((zal l0 x3_1).f0) ((zal l0 x3_1).f1) ((zal l0 x3_1).f2) ((zal l0 x3_1).f3) = some r) ∧ zaa (kq ≤ kj1) ∧ zaa (wc.heap[gb172]? = some (.cells #[.string ((zal l0 x3_1).f0), .string ((zal l0 x3_1).f1), (.slice A171_2 ((zal l0 x3_1).f2).length c171_2), (.slice A171_3 ((zal l0 x3_1).f3).length c171_3)] 44 (0, 0))) ∧ zaa (Below w.heap.size w wc))
        case first =>
         have H := HC7.out
         clear HC7
         by_cases c10 : (((zal l0 x3_1).f0).size : Int) > 30
         ·
          rw [if_pos c10] at H
          have c10b0 : decide (30 < (((zal l0 x3_1).f0).size : Int)) = true := decide_eq_true c10
          have c10b1 : decide (30 < ((zal l0 x3_1).f0).size) = true := decide_eq_true o9
          clear c10
          (first | rw [c10b0] | (simp only [i64_w, i32_w]; rw [c10b0]) | skip)
          have H' := zaa.mk H
          clear H
          have hcz11_0 : w8.cell? ⟨gb172, 0, none⟩ = some (.string (⟨#[]⟩ : ByteArray)) := (zaK BK172.out 0).trans rfl
          have hcz11_1 : w8.cell? ⟨gb172, 1, none⟩ = some (.string (⟨#[]⟩ : ByteArray)) := (zaK BK172.out 1).trans rfl
          have hcz11_2 : w8.cell? ⟨gb172, 2, none⟩ = some (.slice none 0 0) := (zaK BK172.out 2).trans rfl
          have hcz11_3 : w8.cell? ⟨gb172, 3, none⟩ = some (.slice none 0 0) := (zaK BK172.out 3).trans rfl
          have hfz11_0 := zaD BK172.out 0
          have hfz11_1 := zaD BK172.out 1
          have hfz11_2 := zaD BK172.out 2
          have hfz11_3 := zaD BK172.out 3
          go_wp2
          go_meet
          case rel => exact ⟨_, (true), (by first | rfl | (simp; done) | (simp [*]; done)), H', ⟨by have := HK1.out; have := HJ1.out; first | omega | exact Nat.le_refl _⟩, ⟨by (with_reducible repeat (first | refine zaL ?_ _ | refine zaO ?_ | refine zaM ?_ _)); refine zaR (cs := #[.string ((zal l0 x3_1).f0), .string ((zal l0 x3_1).f1), .slice A171_2 ((zal l0 x3_1).f2).length c171_2, .slice none 0 0]) ?_ 3 _ rfl; (with_reducible repeat (first | refine zaL ?_ _ | refine zaO ?_ | refine zaM ?_ _)); refine zaR (cs := #[.string ((zal l0 x3_1).f0), .string ((zal l0 x3_1).f1), .slice none 0 0, .slice none 0 0]) ?_ 2 _ rfl; (with_reducible repeat (first | refine zaL ?_ _ | refine zaO ?_ | refine zaM ?_ _)); refine zaR (cs := #[.string ((zal l0 x3_1).f0), .string (⟨#[]⟩ : ByteArray), .slice none 0 0, .slice none 0 0]) ?_ 1 _ rfl; (with_reducible repeat (first | refine zaL ?_ _ | refine zaO ?_ | refine zaM ?_ _)); refine zaR (cs := #[.string (⟨#[]⟩ : ByteArray), .string (⟨#[]⟩ : ByteArray), .slice none 0 0, .slice none 0 0]) ?_ 0 _ rfl; (with_reducible repeat (first | refine zaL ?_ _ | refine zaO ?_ | refine zaM ?_ _)); exact BK172.out⟩, ⟨by repeat (first | (with_reducible first | exact HB.out | apply zac | apply zab | apply zae | refine zaE ?_ GE172.out) | exact HB.out)⟩⟩
         ·
          rw [if_neg c10] at H
          have c10b0 : decide (30 < (((zal l0 x3_1).f0).size : Int)) = false := decide_eq_false c10
          have c10b1 : decide (30 < ((zal l0 x3_1).f0).size) = false := decide_eq_false o9
          clear c10
          (first | rw [c10b0] | (simp only [i64_w, i32_w]; rw [c10b0]) | skip)
          by_cases c12 : (((zal l0 x3_1).f1).size : Int) > 30
          ·
           rw [if_pos c12] at H
           have c12b0 : decide (30 < (((zal l0 x3_1).f1).size : Int)) = true := decide_eq_true c12
           have c12b1 : decide (30 < ((zal l0 x3_1).f1).size) = true := decide_eq_true o9
           clear c12
           have H' := zaa.mk H
           clear H
           have hcz13_0 : w8.cell? ⟨gb172, 0, none⟩ = some (.string (⟨#[]⟩ : ByteArray)) := (zaK BK172.out 0).trans rfl
           have hcz13_1 : w8.cell? ⟨gb172, 1, none⟩ = some (.string (⟨#[]⟩ : ByteArray)) := (zaK BK172.out 1).trans rfl
           have hcz13_2 : w8.cell? ⟨gb172, 2, none⟩ = some (.slice none 0 0) := (zaK BK172.out 2).trans rfl
           have hcz13_3 : w8.cell? ⟨gb172, 3, none⟩ = some (.slice none 0 0) := (zaK BK172.out 3).trans rfl
           have hfz13_0 := zaD BK172.out 0
           have hfz13_1 := zaD BK172.out 1
           have hfz13_2 := zaD BK172.out 2
           have hfz13_3 := zaD BK172.out 3
           go_wp2
           go_meet
           case rel => exact ⟨_, (true), (by first | rfl | (simp; done) | (simp [*]; done)), H', ⟨by have := HK1.out; have := HJ1.out; first | omega | exact Nat.le_refl _⟩, ⟨by (with_reducible repeat (first | refine zaL ?_ _ | refine zaO ?_ | refine zaM ?_ _)); refine zaR (cs := #[.string ((zal l0 x3_1).f0), .string ((zal l0 x3_1).f1), .slice A171_2 ((zal l0 x3_1).f2).length c171_2, .slice none 0 0]) ?_ 3 _ rfl; (with_reducible repeat (first | refine zaL ?_ _ | refine zaO ?_ | refine zaM ?_ _)); refine zaR (cs := #[.string ((zal l0 x3_1).f0), .string ((zal l0 x3_1).f1), .slice none 0 0, .slice none 0 0]) ?_ 2 _ rfl; (with_reducible repeat (first | refine zaL ?_ _ | refine zaO ?_ | refine zaM ?_ _)); refine zaR (cs := #[.string ((zal l0 x3_1).f0), .string (⟨#[]⟩ : ByteArray), .slice none 0 0, .slice none 0 0]) ?_ 1 _ rfl; (with_reducible repeat (first | refine zaL ?_ _ | refine zaO ?_ | refine zaM ?_ _)); refine zaR (cs := #[.string (⟨#[]⟩ : ByteArray), .string (⟨#[]⟩ : ByteArray), .slice none 0 0, .slice none 0 0]) ?_ 0 _ rfl; (with_reducible repeat (first | refine zaL ?_ _ | refine zaO ?_ | refine zaM ?_ _)); exact BK172.out⟩, ⟨by repeat (first | (with_reducible first | exact HB.out | apply zac | apply zab | apply zae | refine zaE ?_ GE172.out) | exact HB.out)⟩⟩
          ·
           rw [if_neg c12] at H
           have c12b0 : decide (30 < (((zal l0 x3_1).f1).size : Int)) = false := decide_eq_false c12
           have c12b1 : decide (30 < ((zal l0 x3_1).f1).size) = false := decide_eq_false o9
           clear c12
           by_cases c14 : (((zal l0 x3_1).f2).length : Int) > 7
           ·
            rw [if_pos c14] at H
            have c14b0 : decide (7 < (((zal l0 x3_1).f2).length : Int)) = true := decide_eq_true c14
            have c14b1 : decide (7 < ((zal l0 x3_1).f2).length) = true := decide_eq_true o9
            clear c14
            have H' := zaa.mk H
            clear H
            have hcz15_0 : w8.cell? ⟨gb172, 0, none⟩ = some (.string (⟨#[]⟩ : ByteArray)) := (zaK BK172.out 0).trans rfl
            have hcz15_1 : w8.cell? ⟨gb172, 1, none⟩ = some (.string (⟨#[]⟩ : ByteArray)) := (zaK BK172.out 1).trans rfl
            have hcz15_2 : w8.cell? ⟨gb172, 2, none⟩ = some (.slice none 0 0) := (zaK BK172.out 2).trans rfl
            have hcz15_3 : w8.cell? ⟨gb172, 3, none⟩ = some (.slice none 0 0) := (zaK BK172.out 3).trans rfl
            have hfz15_0 := zaD BK172.out 0
            have hfz15_1 := zaD BK172.out 1
            have hfz15_2 := zaD BK172.out 2
            have hfz15_3 := zaD BK172.out 3
            go_wp2
            go_meet
            case rel => exact ⟨_, (true), (by first | rfl | (simp; done) | (simp [*]; done)), H', ⟨by have := HK1.out; have := HJ1.out; first | omega | exact Nat.le_refl _⟩, ⟨by (with_reducible repeat (first | refine zaL ?_ _ | refine zaO ?_ | refine zaM ?_ _)); refine zaR (cs := #[.string ((zal l0 x3_1).f0), .string ((zal l0 x3_1).f1), .slice A171_2 ((zal l0 x3_1).f2).length c171_2, .slice none 0 0]) ?_ 3 _ rfl; (with_reducible repeat (first | refine zaL ?_ _ | refine zaO ?_ | refine zaM ?_ _)); refine zaR (cs := #[.string ((zal l0 x3_1).f0), .string ((zal l0 x3_1).f1), .slice none 0 0, .slice none 0 0]) ?_ 2 _ rfl; (with_reducible repeat (first | refine zaL ?_ _ | refine zaO ?_ | refine zaM ?_ _)); refine zaR (cs := #[.string ((zal l0 x3_1).f0), .string (⟨#[]⟩ : ByteArray), .slice none 0 0, .slice none 0 0]) ?_ 1 _ rfl; (with_reducible repeat (first | refine zaL ?_ _ | refine zaO ?_ | refine zaM ?_ _)); refine zaR (cs := #[.string (⟨#[]⟩ : ByteArray), .string (⟨#[]⟩ : ByteArray), .slice none 0 0, .slice none 0 0]) ?_ 0 _ rfl; (with_reducible repeat (first | refine zaL ?_ _ | refine zaO ?_ | refine zaM ?_ _)); exact BK172.out⟩, ⟨by repeat (first | (with_reducible first | exact HB.out | apply zac | apply zab | apply zae | refine zaE ?_ GE172.out) | exact HB.out)⟩⟩
           ·
            rw [if_neg c14] at H
            have c14b0 : decide (7 < (((zal l0 x3_1).f2).length : Int)) = false := decide_eq_false c14
            have c14b1 : decide (7 < ((zal l0 x3_1).f2).length) = false := decide_eq_false o9
            clear c14
            by_cases c16 : (((zal l0 x3_1).f3).length : Int) > 7
            ·
             rw [if_pos c16] at H
             have c16b0 : decide (7 < (((zal l0 x3_1).f3).length : Int)) = true := decide_eq_true c16
             have c16b1 : decide (7 < ((zal l0 x3_1).f3).length) = true := decide_eq_true o9
             clear c16
             have H' := zaa.mk H
             clear H
             have hcz17_0 : w8.cell? ⟨gb172, 0, none⟩ = some (.string (⟨#[]⟩ : ByteArray)) := (zaK BK172.out 0).trans rfl
             have hcz17_1 : w8.cell? ⟨gb172, 1, none⟩ = some (.string (⟨#[]⟩ : ByteArray)) := (zaK BK172.out 1).trans rfl
             have hcz17_2 : w8.cell? ⟨gb172, 2, none⟩ = some (.slice none 0 0) := (zaK BK172.out 2).trans rfl
             have hcz17_3 : w8.cell? ⟨gb172, 3, none⟩ = some (.slice none 0 0) := (zaK BK172.out 3).trans rfl
             have hfz17_0 := zaD BK172.out 0
             have hfz17_1 := zaD BK172.out 1
             have hfz17_2 := zaD BK172.out 2
             have hfz17_3 := zaD BK172.out 3
             go_wp2
             go_meet
             case rel => exact ⟨_, (true), (by first | rfl | (simp; done) | (simp [*]; done)), H', ⟨by have := HK1.out; have := HJ1.out; first | omega | exact Nat.le_refl _⟩, ⟨by (with_reducible repeat (first | refine zaL ?_ _ | refine zaO ?_ | refine zaM ?_ _)); refine zaR (cs := #[.string ((zal l0 x3_1).f0), .string ((zal l0 x3_1).f1), .slice A171_2 ((zal l0 x3_1).f2).length c171_2, .slice none 0 0]) ?_ 3 _ rfl; (with_reducible repeat (first | refine zaL ?_ _ | refine zaO ?_ | refine zaM ?_ _)); refine zaR (cs := #[.string ((zal l0 x3_1).f0), .string ((zal l0 x3_1).f1), .slice none 0 0, .slice none 0 0]) ?_ 2 _ rfl; (with_reducible repeat (first | refine zaL ?_ _ | refine zaO ?_ | refine zaM ?_ _)); refine zaR (cs := #[.string ((zal l0 x3_1).f0), .string (⟨#[]⟩ : ByteArray), .slice none 0 0, .slice none 0 0]) ?_ 1 _ rfl; (with_reducible repeat (first | refine zaL ?_ _ | refine zaO ?_ | refine zaM ?_ _)); refine zaR (cs := #[.string (⟨#[]⟩ : ByteArray), .string (⟨#[]⟩ : ByteArray), .slice none 0 0, .slice none 0 0]) ?_ 0 _ rfl; (with_reducible repeat (first | refine zaL ?_ _ | refine zaO ?_ | refine zaM ?_ _)); exact BK172.out⟩, ⟨by repeat (first | (with_reducible first | exact HB.out | apply zac | apply zab | apply zae | refine zaE ?_ GE172.out) | exact HB.out)⟩⟩
            ·
             rw [if_neg c16] at H
             have c16b0 : decide (7 < (((zal l0 x3_1).f3).length : Int)) = false := decide_eq_false c16
             have c16b1 : decide (7 < ((zal l0 x3_1).f3).length) = false := decide_eq_false o9
             clear c16
             replace H := Option.bind_eq_some_iff.mp H
             obtain ⟨t173, A180, H⟩ := H
             replace H : (zah.j2 kj1 l0 x3_1 t173 ((zal l0 x3_1).f0) ((zal l0 x3_1).f1) ((zal l0 x3_1).f2) ((zal l0 x3_1).f3)) = some r := H
             have A18 := zaa.mk A180
             clear A180
             have H' := zaa.mk H
             clear H
             have hcz19_0 : w8.cell? ⟨gb172, 0, none⟩ = some (.string (⟨#[]⟩ : ByteArray)) := (zaK BK172.out 0).trans rfl
             have hcz19_1 : w8.cell? ⟨gb172, 1, none⟩ = some (.string (⟨#[]⟩ : ByteArray)) := (zaK BK172.out 1).trans rfl
             have hcz19_2 : w8.cell? ⟨gb172, 2, none⟩ = some (.slice none 0 0) := (zaK BK172.out 2).trans rfl
             have hcz19_3 : w8.cell? ⟨gb172, 3, none⟩ = some (.slice none 0 0) := (zaK BK172.out 3).trans rfl
             have hfz19_0 := zaD BK172.out 0
             have hfz19_1 := zaD BK172.out 1
             have hfz19_2 := zaD BK172.out 2
             have hfz19_3 := zaD BK172.out 3
             go_wp2_with (first | (go_at_call 26; (with_reducible refine (zaz.calls kj1 _ _ ((zal l0 x3_1).f2) t173 _ ?side1 ?side2 A18.out).mono ?_); (case side1 => exact Kd.zan HR171_2.out (by repeat (first | (with_reducible first | exact HB.out | apply zac | apply zab | apply zae | refine zaE ?_ GE172.out) | exact HB.out))); (case side2 => exact HC171_2.out); rintro e w' ⟨rfl, ⟨nd, rfl⟩⟩))
             go_meet
             case rel => exact ⟨_, (t173), (by first | rfl | (simp; done) | (simp [*]; done)), H', ⟨by have := HK1.out; have := HJ1.out; first | omega | exact Nat.le_refl _⟩, ⟨by (with_reducible repeat (first | refine zaL ?_ _ | refine zaO ?_ | refine zaM ?_ _)); refine zaR (cs := #[.string ((zal l0 x3_1).f0), .string ((zal l0 x3_1).f1), .slice A171_2 ((zal l0 x3_1).f2).length c171_2, .slice none 0 0]) ?_ 3 _ rfl; (with_reducible repeat (first | refine zaL ?_ _ | refine zaO ?_ | refine zaM ?_ _)); refine zaR (cs := #[.string ((zal l0 x3_1).f0), .string ((zal l0 x3_1).f1), .slice none 0 0, .slice none 0 0]) ?_ 2 _ rfl; (with_reducible repeat (first | refine zaL ?_ _ | refine zaO ?_ | refine zaM ?_ _)); refine zaR (cs := #[.string ((zal l0 x3_1).f0), .string (⟨#[]⟩ : ByteArray), .slice none 0 0, .slice none 0 0]) ?_ 1 _ rfl; (with_reducible repeat (first | refine zaL ?_ _ | refine zaO ?_ | refine zaM ?_ _)); refine zaR (cs := #[.string (⟨#[]⟩ : ByteArray), .string (⟨#[]⟩ : ByteArray), .slice none 0 0, .slice none 0 0]) ?_ 0 _ rfl; (with_reducible repeat (first | refine zaL ?_ _ | refine zaO ?_ | refine zaM ?_ _)); exact BK172.out⟩, ⟨by repeat (first | (with_reducible first | exact HB.out | apply zac | apply zab | apply zae | refine zaE ?_ GE172.out) | exact HB.out)⟩⟩
        case rest =>
         clear HC7
         try clear c1
         try clear p1
         try clear q1
         try clear hx1
         try clear p2
         try clear c3
         try clear c3b0
         try clear c4
         try clear c5
         try clear c5b0
         try clear c6
         try clear c6b0
         try clear c10
         try clear c10b0
         try clear c10b1
         try clear c12
         try clear c12b0
         try clear c12b1
         try clear c14
         try clear c14b0
         try clear c14b1
         try clear c16
         try clear c16b0
         try clear c16b1
         try clear c17
         try clear p17
         try clear q17
         try clear hx17
         try clear hcz11_0
         try clear hcz11_1
         try clear hcz11_2
         try clear hcz11_3
         try clear hcz13_0
         try clear hcz13_1
         try clear hcz13_2
         try clear hcz13_3
         try clear hcz15_0
         try clear hcz15_1
         try clear hcz15_2
         try clear hcz15_3
         try clear hcz17_0
         try clear hcz17_1
         try clear hcz17_2
         try clear hcz17_3
         try clear hcz19_0
         try clear hcz19_1
         try clear hcz19_2
         try clear hcz19_3
         try clear hcz9_0
         try clear hcz9_1
         try clear hcz9_2
         try clear hcz9_3
         try clear hfz11_0
         try clear hfz11_1
         try clear hfz11_2
         try clear hfz11_3
         try clear hfz13_0
         try clear hfz13_1
         try clear hfz13_2
         try clear hfz13_3
         try clear hfz15_0
         try clear hfz15_1
         try clear hfz15_2
         try clear hfz15_3
         try clear hfz17_0
         try clear hfz17_1
         try clear hfz17_2
         try clear hfz17_3
         try clear hfz19_0
         try clear hfz19_1
         try clear hfz19_2
         try clear hfz19_3
         try clear hfz9_0
         try clear hfz9_1
         try clear hfz9_2
         try clear hfz9_3
         try clear hx171_0
         try clear hx171_1
         try clear hx171_2
         try clear hx171_3
         try clear p171
         try clear p2
         try clear q171
         obtain ⟨kq, x47_6, rfl, HA, HJ6, BK172, HB⟩ := hcut
         cases kq with
         | zero => exact absurd HA.out (by simp [zah.j2])
         | succ kj6 =>
          have H := HA.out
          clear HA
          simp only [zah.j2] at H
          by_cases c20 : x47_6 = true
          ·
           subst c20
           have H1 : (some true) = some r := by rw [if_pos rfl] at H; exact H
           clear H
           have H := H1
           clear H1
           obtain rfl := Option.some.inj H
           go_wp2
           go_ret
           exact ⟨by first | rfl | (simp [zaP, zaQ] <;> rfl) | (simp [*, zaP, zaQ] <;> rfl), by repeat (first | (with_reducible first | exact HB.out | apply zac | apply zab | apply zae | refine zaE ?_ GE172.out) | exact HB.out)⟩
          ·
           replace c20 := Bool.eq_false_iff.mpr c20
           subst c20
           have H1 : (zah.l1 kj6 l0 x3_1 0 ((zal l0 x3_1).f0) ((zal l0 x3_1).f1) ((zal l0 x3_1).f2) ((zal l0 x3_1).f3)) = some r := by rw [if_neg (show ¬ (false = true) by decide)] at H; exact H
           clear H
           have H := H1
           clear H1
           have H' := zaa.mk H
           clear H
           go_wp2
           go_loopg [5] kj6 (fun kq v5 w' => ∃ (x5_4 : Int), v5 = .int .i64 x5_4 ∧ zaa (zah.l1 kq l0 x3_1 x5_4 ((zal l0 x3_1).f0) ((zal l0 x3_1).f1) ((zal l0 x3_1).f2) ((zal l0 x3_1).f3) = some r) ∧ zaa (kq ≤ kj6) ∧ zaa (w'.heap[gb172]? = some (.cells #[.string ((zal l0 x3_1).f0), .string ((zal l0 x3_1).f1), (.slice A171_2 ((zal l0 x3_1).f2).length c171_2), (.slice A171_3 ((zal l0 x3_1).f3).length c171_3)] 44 (0, 0))) ∧ zaa (Below w.heap.size w w'))
           case atStart => exact ⟨(0), (by first | rfl | (simp; done) | (simp [*]; done)), H', ⟨Nat.le_refl _⟩, ⟨by (with_reducible repeat (first | refine zaL ?_ _ | refine zaO ?_ | refine zaM ?_ _)); exact BK172.out⟩, ⟨by repeat (first | (with_reducible first | exact HB.out | apply zac | apply zab | apply zae | refine zaE ?_ GE172.out) | exact HB.out)⟩⟩
           case round =>
            clear H'
            try clear c1
            try clear p1
            try clear q1
            try clear hx1
            try clear c2
            try clear p2
            try clear c3
            try clear c3b0
            try clear c4
            try clear c5
            try clear c5b0
            try clear c6
            try clear c6b0
            try clear c10
            try clear c10b0
            try clear c10b1
            try clear c12
            try clear c12b0
            try clear c12b1
            try clear c14
            try clear c14b0
            try clear c14b1
            try clear c16
            try clear c16b0
            try clear c16b1
            try clear c17
            try clear p17
            try clear q17
            try clear hx17
            try clear c20
            try clear hcz11_0
            try clear hcz11_1
            try clear hcz11_2
            try clear hcz11_3
            try clear hcz13_0
            try clear hcz13_1
            try clear hcz13_2
            try clear hcz13_3
            try clear hcz15_0
            try clear hcz15_1
            try clear hcz15_2
            try clear hcz15_3
            try clear hcz17_0
            try clear hcz17_1
            try clear hcz17_2
            try clear hcz17_3
            try clear hcz19_0
            try clear hcz19_1
            try clear hcz19_2
            try clear hcz19_3
            try clear hcz9_0
            try clear hcz9_1
            try clear hcz9_2
            try clear hcz9_3
            try clear hfz11_0
            try clear hfz11_1
            try clear hfz11_2
            try clear hfz11_3
            try clear hfz13_0
            try clear hfz13_1
            try clear hfz13_2
            try clear hfz13_3
            try clear hfz15_0
            try clear hfz15_1
            try clear hfz15_2
            try clear hfz15_3
            try clear hfz17_0
            try clear hfz17_1
            try clear hfz17_2
            try clear hfz17_3
            try clear hfz19_0
            try clear hfz19_1
            try clear hfz19_2
            try clear hfz19_3
            try clear hfz9_0
            try clear hfz9_1
            try clear hfz9_2
            try clear hfz9_3
            try clear hx171_0
            try clear hx171_1
            try clear hx171_2
            try clear hx171_3
            try clear p1
            try clear p17
            try clear p171
            try clear p2
            try clear q1
            try clear q17
            try clear q171
            obtain ⟨x5_4, rfl, HA, HK4, BK172, HB⟩ := hrel
            cases gk with
            | zero => exact absurd HA.out (by simp [zah.l1])
            | succ k4 =>
             have H := HA.out
             clear HA
             simp only [zah.l1] at H
             by_cases c21 : x5_4 < (((zal l0 x3_1).f3).length : Int)
             ·
              rw [if_pos c21] at H
              have c21b0 : decide (x5_4 < (((zal l0 x3_1).f3).length : Int)) = true := decide_eq_true c21
              clear c21
              by_cases c22 : 0 ≤ x5_4
              ·
               rw [if_pos c22] at H
               have c22b0 : decide (0 ≤ x5_4) = true := decide_eq_true c22
               clear c22
               by_cases c23 : (((zaV ((zal l0 x3_1).f3) x5_4).f0).size : Int) > 30
               ·
                rw [if_pos c23] at H
                have c23b0 : decide (30 < (((zaV ((zal l0 x3_1).f3) x5_4).f0).size : Int)) = true := decide_eq_true c23
                have c23b1 : decide (30 < ((zaV ((zal l0 x3_1).f3) x5_4).f0).size) = true := decide_eq_true o9
                clear c23
                obtain rfl := Option.some.inj H
                have hcz24_0 : wr.cell? ⟨gb172, 0, none⟩ = some (.string ((zal l0 x3_1).f0)) := (zaK BK172.out 0).trans rfl
                have hcz24_1 : wr.cell? ⟨gb172, 1, none⟩ = some (.string ((zal l0 x3_1).f1)) := (zaK BK172.out 1).trans rfl
                have hcz24_2 : wr.cell? ⟨gb172, 2, none⟩ = some (.slice A171_2 ((zal l0 x3_1).f2).length c171_2) := (zaK BK172.out 2).trans rfl
                have hcz24_3 : wr.cell? ⟨gb172, 3, none⟩ = some (.slice A171_3 ((zal l0 x3_1).f3).length c171_3) := (zaK BK172.out 3).trans rfl
                have hfz24_0 := zaD BK172.out 0
                have hfz24_1 := zaD BK172.out 1
                have hfz24_2 := zaD BK172.out 2
                have hfz24_3 := zaD BK172.out 3
                have p174 : 0 ≤ (x5_4 : Int) := of_decide_eq_true (by first | (with_reducible assumption) | assumption)
                have q174 : x5_4 < (((zal l0 x3_1).f3).length : Int) := of_decide_eq_true (by first | (with_reducible assumption) | assumption)
                obtain ⟨ad174, A174_1, c174_1, e174, hx174_0, hx174_1, hx174_2, hl174_1, hi174_1⟩ := zcA HR171_3.out x5_4 p174 q174
                cases e174
                replace hx174_0 := (HB.out.cell (World.block_lt_of_cell? w _ hx174_0)).trans hx174_0
                replace hx174_1 := (HB.out.cell (World.block_lt_of_cell? w _ hx174_1)).trans hx174_1
                replace hx174_2 := (HB.out.cell (World.block_lt_of_cell? w _ hx174_2)).trans hx174_2
                have HR174_1 := zaa.mk hi174_1
                have HC174_1 := zaa.mk hl174_1
                clear hi174_1 hl174_1
                replace p174 := eq_true p174
                replace q174 := eq_true q174
                go_wp2_with (first | ((with_reducible refine zbl (N := 6) rfl ?_); (try (refine zbN (by rfl) ?_; dsimp only)); refine zbH ?hg (N := 6) ?hd (cs := #[.string (⟨#[]⟩ : ByteArray), .slice none 0 0, .string (⟨#[]⟩ : ByteArray)]) (t := 57) ?hr ?_; (case hd => rfl); (case hg => rfl); (case hr => first | (go_simp; done) | (go_simp; rfl)); intro gb175 hg w25 hbox hb; have n0_ := zaa.mk (zb8 (g := gb172) (o := .cells #[.string ((zal l0 x3_1).f0), .string ((zal l0 x3_1).f1), .slice A171_2 ((zal l0 x3_1).f2).length c171_2, .slice (some ad174) ((zal l0 x3_1).f3).length c171_3] 44 (0, 0)) (by (with_reducible repeat (first | refine zaL ?_ _ | refine zaO ?_ | refine zaM ?_ _)); exact BK172.out) hb); have n1_ := zaa.mk (zai (by repeat (first | (with_reducible first | exact HB.out | apply zac | apply zab | apply zae | refine zaE ?_ GE172.out) | exact HB.out)) hb); have n2_ := zaa.mk (hbox); have n3_ := zaa.mk ((by rw [hg]; exact (zaI (by repeat (first | (with_reducible first | exact HB.out | apply zac | apply zab | apply zae | refine zaE ?_ GE172.out) | exact HB.out))) : w.heap.size ≤ gb175)); have n4_ := zaa.mk ((by rw [hg]; exact (zaI (by repeat (first | (with_reducible first | exact HB.out | apply zac | apply zab | apply zae | refine zaE ?_ GE172.out) | exact HB.out))) : w.heap.size ≤ gb175)); have n5_ := zaa.mk ((by rw [hg]; exact Nat.ne_of_lt (zch (g := gb172) (o := .cells #[.string ((zal l0 x3_1).f0), .string ((zal l0 x3_1).f1), .slice A171_2 ((zal l0 x3_1).f2).length c171_2, .slice (some ad174) ((zal l0 x3_1).f3).length c171_3] 44 (0, 0)) (by (with_reducible repeat (first | refine zaL ?_ _ | refine zaO ?_ | refine zaM ?_ _)); exact BK172.out)) : gb172 ≠ gb175)); have n6_ := zaa.mk ((by rw [hg]; exact Nat.ne_of_gt (zch (g := gb172) (o := .cells #[.string ((zal l0 x3_1).f0), .string ((zal l0 x3_1).f1), .slice A171_2 ((zal l0 x3_1).f2).length c171_2, .slice (some ad174) ((zal l0 x3_1).f3).length c171_3] 44 (0, 0)) (by (with_reducible repeat (first | refine zaL ?_ _ | refine zaO ?_ | refine zaM ?_ _)); exact BK172.out)) : gb175 ≠ gb172)); clear BK172; clear HB; have BK172 := n0_; have HB := n1_; have BK175 := n2_; have GW175 := n3_; have GE175 := n4_; have NB172_175 := n5_; have NB175_172 := n6_; clear n0_ n1_ n2_ n3_ n4_ n5_ n6_; clear hb hbox hg; have hnb26 := NB175_172.out; have hnc26 := NB172_175.out; have hcz27_0 : w25.cell? ⟨gb175, 0, none⟩ = some (.string (⟨#[]⟩ : ByteArray)) := (zaK BK175.out 0).trans rfl; have hcz27_1 : w25.cell? ⟨gb175, 1, none⟩ = some (.slice none 0 0) := (zaK BK175.out 1).trans rfl; have hcz27_2 : w25.cell? ⟨gb175, 2, none⟩ = some (.string (⟨#[]⟩ : ByteArray)) := (zaK BK175.out 2).trans rfl; have hfz27_0 := zaD BK175.out 0; have hfz27_1 := zaD BK175.out 1; have hfz27_2 := zaD BK175.out 2))
                go_ret
                exact ⟨by first | rfl | (simp [zaP, zaQ] <;> rfl) | (simp [*, zaP, zaQ] <;> rfl), by repeat (first | (with_reducible first | exact HB.out | apply zac | apply zab | apply zae | refine zaE ?_ GE172.out | refine zaE ?_ GE175.out) | exact HB.out)⟩
               ·
                rw [if_neg c23] at H
                have c23b0 : decide (30 < (((zaV ((zal l0 x3_1).f3) x5_4).f0).size : Int)) = false := decide_eq_false c23
                have c23b1 : decide (30 < ((zaV ((zal l0 x3_1).f3) x5_4).f0).size) = false := decide_eq_false o9
                clear c23
                by_cases c28 : (((zaV ((zal l0 x3_1).f3) x5_4).f2).size : Int) > 30
                ·
                 rw [if_pos c28] at H
                 have c28b0 : decide (30 < (((zaV ((zal l0 x3_1).f3) x5_4).f2).size : Int)) = true := decide_eq_true c28
                 have c28b1 : decide (30 < ((zaV ((zal l0 x3_1).f3) x5_4).f2).size) = true := decide_eq_true o9
                 clear c28
                 obtain rfl := Option.some.inj H
                 have hcz29_0 : wr.cell? ⟨gb172, 0, none⟩ = some (.string ((zal l0 x3_1).f0)) := (zaK BK172.out 0).trans rfl
                 have hcz29_1 : wr.cell? ⟨gb172, 1, none⟩ = some (.string ((zal l0 x3_1).f1)) := (zaK BK172.out 1).trans rfl
                 have hcz29_2 : wr.cell? ⟨gb172, 2, none⟩ = some (.slice A171_2 ((zal l0 x3_1).f2).length c171_2) := (zaK BK172.out 2).trans rfl
                 have hcz29_3 : wr.cell? ⟨gb172, 3, none⟩ = some (.slice A171_3 ((zal l0 x3_1).f3).length c171_3) := (zaK BK172.out 3).trans rfl
                 have hfz29_0 := zaD BK172.out 0
                 have hfz29_1 := zaD BK172.out 1
                 have hfz29_2 := zaD BK172.out 2
                 have hfz29_3 := zaD BK172.out 3
                 have p174 : 0 ≤ (x5_4 : Int) := of_decide_eq_true (by first | (with_reducible assumption) | assumption)
                 have q174 : x5_4 < (((zal l0 x3_1).f3).length : Int) := of_decide_eq_true (by first | (with_reducible assumption) | assumption)
                 obtain ⟨ad174, A174_1, c174_1, e174, hx174_0, hx174_1, hx174_2, hl174_1, hi174_1⟩ := zcA HR171_3.out x5_4 p174 q174
                 cases e174
                 replace hx174_0 := (HB.out.cell (World.block_lt_of_cell? w _ hx174_0)).trans hx174_0
                 replace hx174_1 := (HB.out.cell (World.block_lt_of_cell? w _ hx174_1)).trans hx174_1
                 replace hx174_2 := (HB.out.cell (World.block_lt_of_cell? w _ hx174_2)).trans hx174_2
                 have HR174_1 := zaa.mk hi174_1
                 have HC174_1 := zaa.mk hl174_1
                 clear hi174_1 hl174_1
                 replace p174 := eq_true p174
                 replace q174 := eq_true q174
                 go_wp2_with (first | ((with_reducible refine zbl (N := 6) rfl ?_); (try (refine zbN (by rfl) ?_; dsimp only)); refine zbH ?hg (N := 6) ?hd (cs := #[.string (⟨#[]⟩ : ByteArray), .slice none 0 0, .string (⟨#[]⟩ : ByteArray)]) (t := 57) ?hr ?_; (case hd => rfl); (case hg => rfl); (case hr => first | (go_simp; done) | (go_simp; rfl)); intro gb175 hg w30 hbox hb; have n0_ := zaa.mk (zb8 (g := gb172) (o := .cells #[.string ((zal l0 x3_1).f0), .string ((zal l0 x3_1).f1), .slice A171_2 ((zal l0 x3_1).f2).length c171_2, .slice (some ad174) ((zal l0 x3_1).f3).length c171_3] 44 (0, 0)) (by (with_reducible repeat (first | refine zaL ?_ _ | refine zaO ?_ | refine zaM ?_ _)); exact BK172.out) hb); have n1_ := zaa.mk (zai (by repeat (first | (with_reducible first | exact HB.out | apply zac | apply zab | apply zae | refine zaE ?_ GE172.out) | exact HB.out)) hb); have n2_ := zaa.mk (hbox); have n3_ := zaa.mk ((by rw [hg]; exact (zaI (by repeat (first | (with_reducible first | exact HB.out | apply zac | apply zab | apply zae | refine zaE ?_ GE172.out) | exact HB.out))) : w.heap.size ≤ gb175)); have n4_ := zaa.mk ((by rw [hg]; exact (zaI (by repeat (first | (with_reducible first | exact HB.out | apply zac | apply zab | apply zae | refine zaE ?_ GE172.out) | exact HB.out))) : w.heap.size ≤ gb175)); have n5_ := zaa.mk ((by rw [hg]; exact Nat.ne_of_lt (zch (g := gb172) (o := .cells #[.string ((zal l0 x3_1).f0), .string ((zal l0 x3_1).f1), .slice A171_2 ((zal l0 x3_1).f2).length c171_2, .slice (some ad174) ((zal l0 x3_1).f3).length c171_3] 44 (0, 0)) (by (with_reducible repeat (first | refine zaL ?_ _ | refine zaO ?_ | refine zaM ?_ _)); exact BK172.out)) : gb172 ≠ gb175)); have n6_ := zaa.mk ((by rw [hg]; exact Nat.ne_of_gt (zch (g := gb172) (o := .cells #[.string ((zal l0 x3_1).f0), .string ((zal l0 x3_1).f1), .slice A171_2 ((zal l0 x3_1).f2).length c171_2, .slice (some ad174) ((zal l0 x3_1).f3).length c171_3] 44 (0, 0)) (by (with_reducible repeat (first | refine zaL ?_ _ | refine zaO ?_ | refine zaM ?_ _)); exact BK172.out)) : gb175 ≠ gb172)); clear BK172; clear HB; have BK172 := n0_; have HB := n1_; have BK175 := n2_; have GW175 := n3_; have GE175 := n4_; have NB172_175 := n5_; have NB175_172 := n6_; clear n0_ n1_ n2_ n3_ n4_ n5_ n6_; clear hb hbox hg; have hnb31 := NB175_172.out; have hnc31 := NB172_175.out; have hcz32_0 : w30.cell? ⟨gb175, 0, none⟩ = some (.string (⟨#[]⟩ : ByteArray)) := (zaK BK175.out 0).trans rfl; have hcz32_1 : w30.cell? ⟨gb175, 1, none⟩ = some (.slice none 0 0) := (zaK BK175.out 1).trans rfl; have hcz32_2 : w30.cell? ⟨gb175, 2, none⟩ = some (.string (⟨#[]⟩ : ByteArray)) := (zaK BK175.out 2).trans rfl; have hfz32_0 := zaD BK175.out 0; have hfz32_1 := zaD BK175.out 1; have hfz32_2 := zaD BK175.out 2))
                 go_ret
                 exact ⟨by first | rfl | (simp [zaP, zaQ] <;> rfl) | (simp [*, zaP, zaQ] <;> rfl), by repeat (first | (with_reducible first | exact HB.out | apply zac | apply zab | apply zae | refine zaE ?_ GE172.out | refine zaE ?_ GE175.out) | exact HB.out)⟩
                ·
                 rw [if_neg c28] at H
                 have c28b0 : decide (30 < (((zaV ((zal l0 x3_1).f3) x5_4).f2).size : Int)) = false := decide_eq_false c28
                 have c28b1 : decide (30 < ((zaV ((zal l0 x3_1).f3) x5_4).f2).size) = false := decide_eq_false o9
                 clear c28
                 by_cases c33 : (((zaV ((zal l0 x3_1).f3) x5_4).f1).length : Int) > 10
                 ·
                  rw [if_pos c33] at H
                  have c33b0 : decide (10 < (((zaV ((zal l0 x3_1).f3) x5_4).f1).length : Int)) = true := decide_eq_true c33
                  have c33b1 : decide (10 < ((zaV ((zal l0 x3_1).f3) x5_4).f1).length) = true := decide_eq_true o9
                  clear c33
                  obtain rfl := Option.some.inj H
                  have hcz34_0 : wr.cell? ⟨gb172, 0, none⟩ = some (.string ((zal l0 x3_1).f0)) := (zaK BK172.out 0).trans rfl
                  have hcz34_1 : wr.cell? ⟨gb172, 1, none⟩ = some (.string ((zal l0 x3_1).f1)) := (zaK BK172.out 1).trans rfl
                  have hcz34_2 : wr.cell? ⟨gb172, 2, none⟩ = some (.slice A171_2 ((zal l0 x3_1).f2).length c171_2) := (zaK BK172.out 2).trans rfl
                  have hcz34_3 : wr.cell? ⟨gb172, 3, none⟩ = some (.slice A171_3 ((zal l0 x3_1).f3).length c171_3) := (zaK BK172.out 3).trans rfl
                  have hfz34_0 := zaD BK172.out 0
                  have hfz34_1 := zaD BK172.out 1
                  have hfz34_2 := zaD BK172.out 2
                  have hfz34_3 := zaD BK172.out 3
                  have p174 : 0 ≤ (x5_4 : Int) := of_decide_eq_true (by first | (with_reducible assumption) | assumption)
                  have q174 : x5_4 < (((zal l0 x3_1).f3).length : Int) := of_decide_eq_true (by first | (with_reducible assumption) | assumption)
                  obtain ⟨ad174, A174_1, c174_1, e174, hx174_0, hx174_1, hx174_2, hl174_1, hi174_1⟩ := zcA HR171_3.out x5_4 p174 q174
                  cases e174
                  replace hx174_0 := (HB.out.cell (World.block_lt_of_cell? w _ hx174_0)).trans hx174_0
                  replace hx174_1 := (HB.out.cell (World.block_lt_of_cell? w _ hx174_1)).trans hx174_1
                  replace hx174_2 := (HB.out.cell (World.block_lt_of_cell? w _ hx174_2)).trans hx174_2
                  have HR174_1 := zaa.mk hi174_1
                  have HC174_1 := zaa.mk hl174_1
                  clear hi174_1 hl174_1
                  replace p174 := eq_true p174
                  replace q174 := eq_true q174
                  go_wp2_with (first | ((with_reducible refine zbl (N := 6) rfl ?_); (try (refine zbN (by rfl) ?_; dsimp only)); refine zbH ?hg (N := 6) ?hd (cs := #[.string (⟨#[]⟩ : ByteArray), .slice none 0 0, .string (⟨#[]⟩ : ByteArray)]) (t := 57) ?hr ?_; (case hd => rfl); (case hg => rfl); (case hr => first | (go_simp; done) | (go_simp; rfl)); intro gb175 hg w35 hbox hb; have n0_ := zaa.mk (zb8 (g := gb172) (o := .cells #[.string ((zal l0 x3_1).f0), .string ((zal l0 x3_1).f1), .slice A171_2 ((zal l0 x3_1).f2).length c171_2, .slice (some ad174) ((zal l0 x3_1).f3).length c171_3] 44 (0, 0)) (by (with_reducible repeat (first | refine zaL ?_ _ | refine zaO ?_ | refine zaM ?_ _)); exact BK172.out) hb); have n1_ := zaa.mk (zai (by repeat (first | (with_reducible first | exact HB.out | apply zac | apply zab | apply zae | refine zaE ?_ GE172.out) | exact HB.out)) hb); have n2_ := zaa.mk (hbox); have n3_ := zaa.mk ((by rw [hg]; exact (zaI (by repeat (first | (with_reducible first | exact HB.out | apply zac | apply zab | apply zae | refine zaE ?_ GE172.out) | exact HB.out))) : w.heap.size ≤ gb175)); have n4_ := zaa.mk ((by rw [hg]; exact (zaI (by repeat (first | (with_reducible first | exact HB.out | apply zac | apply zab | apply zae | refine zaE ?_ GE172.out) | exact HB.out))) : w.heap.size ≤ gb175)); have n5_ := zaa.mk ((by rw [hg]; exact Nat.ne_of_lt (zch (g := gb172) (o := .cells #[.string ((zal l0 x3_1).f0), .string ((zal l0 x3_1).f1), .slice A171_2 ((zal l0 x3_1).f2).length c171_2, .slice (some ad174) ((zal l0 x3_1).f3).length c171_3] 44 (0, 0)) (by (with_reducible repeat (first | refine zaL ?_ _ | refine zaO ?_ | refine zaM ?_ _)); exact BK172.out)) : gb172 ≠ gb175)); have n6_ := zaa.mk ((by rw [hg]; exact Nat.ne_of_gt (zch (g := gb172) (o := .cells #[.string ((zal l0 x3_1).f0), .string ((zal l0 x3_1).f1), .slice A171_2 ((zal l0 x3_1).f2).length c171_2, .slice (some ad174) ((zal l0 x3_1).f3).length c171_3] 44 (0, 0)) (by (with_reducible repeat (first | refine zaL ?_ _ | refine zaO ?_ | refine zaM ?_ _)); exact BK172.out)) : gb175 ≠ gb172)); clear BK172; clear HB; have BK172 := n0_; have HB := n1_; have BK175 := n2_; have GW175 := n3_; have GE175 := n4_; have NB172_175 := n5_; have NB175_172 := n6_; clear n0_ n1_ n2_ n3_ n4_ n5_ n6_; clear hb hbox hg; have hnb36 := NB175_172.out; have hnc36 := NB172_175.out; have hcz37_0 : w35.cell? ⟨gb175, 0, none⟩ = some (.string (⟨#[]⟩ : ByteArray)) := (zaK BK175.out 0).trans rfl; have hcz37_1 : w35.cell? ⟨gb175, 1, none⟩ = some (.slice none 0 0) := (zaK BK175.out 1).trans rfl; have hcz37_2 : w35.cell? ⟨gb175, 2, none⟩ = some (.string (⟨#[]⟩ : ByteArray)) := (zaK BK175.out 2).trans rfl; have hfz37_0 := zaD BK175.out 0; have hfz37_1 := zaD BK175.out 1; have hfz37_2 := zaD BK175.out 2))
                  go_ret
                  exact ⟨by first | rfl | (simp [zaP, zaQ] <;> rfl) | (simp [*, zaP, zaQ] <;> rfl), by repeat (first | (with_reducible first | exact HB.out | apply zac | apply zab | apply zae | refine zaE ?_ GE172.out | refine zaE ?_ GE175.out) | exact HB.out)⟩
                 ·
                  rw [if_neg c33] at H
                  have c33b0 : decide (10 < (((zaV ((zal l0 x3_1).f3) x5_4).f1).length : Int)) = false := decide_eq_false c33
                  have c33b1 : decide (10 < ((zaV ((zal l0 x3_1).f3) x5_4).f1).length) = false := decide_eq_false o9
                  clear c33
                  replace H := Option.bind_eq_some_iff.mp H
                  obtain ⟨t176, A380, H⟩ := H
                  replace H : (if t176 = true then (some true) else (zah.l1 k4 l0 x3_1 (wrap64 (x5_4 + 1)) ((zal l0 x3_1).f0) ((zal l0 x3_1).f1) ((zal l0 x3_1).f2) ((zal l0 x3_1).f3))) = some r := H
                  have A38 := zaa.mk A380
                  clear A380
                  by_cases c39 : t176 = true
                  ·
                   subst c39
                   have H1 : (some true) = some r := by rw [if_pos rfl] at H; exact H
                   clear H
                   have H := H1
                   clear H1
                   obtain rfl := Option.some.inj H
                   have hcz40_0 : wr.cell? ⟨gb172, 0, none⟩ = some (.string ((zal l0 x3_1).f0)) := (zaK BK172.out 0).trans rfl
                   have hcz40_1 : wr.cell? ⟨gb172, 1, none⟩ = some (.string ((zal l0 x3_1).f1)) := (zaK BK172.out 1).trans rfl
                   have hcz40_2 : wr.cell? ⟨gb172, 2, none⟩ = some (.slice A171_2 ((zal l0 x3_1).f2).length c171_2) := (zaK BK172.out 2).trans rfl
                   have hcz40_3 : wr.cell? ⟨gb172, 3, none⟩ = some (.slice A171_3 ((zal l0 x3_1).f3).length c171_3) := (zaK BK172.out 3).trans rfl
                   have hfz40_0 := zaD BK172.out 0
                   have hfz40_1 := zaD BK172.out 1
                   have hfz40_2 := zaD BK172.out 2
                   have hfz40_3 := zaD BK172.out 3
                   have p174 : 0 ≤ (x5_4 : Int) := of_decide_eq_true (by first | (with_reducible assumption) | assumption)
                   have q174 : x5_4 < (((zal l0 x3_1).f3).length : Int) := of_decide_eq_true (by first | (with_reducible assumption) | assumption)
                   obtain ⟨ad174, A174_1, c174_1, e174, hx174_0, hx174_1, hx174_2, hl174_1, hi174_1⟩ := zcA HR171_3.out x5_4 p174 q174
                   cases e174
                   replace hx174_0 := (HB.out.cell (World.block_lt_of_cell? w _ hx174_0)).trans hx174_0
                   replace hx174_1 := (HB.out.cell (World.block_lt_of_cell? w _ hx174_1)).trans hx174_1
                   replace hx174_2 := (HB.out.cell (World.block_lt_of_cell? w _ hx174_2)).trans hx174_2
                   have HR174_1 := zaa.mk hi174_1
                   have HC174_1 := zaa.mk hl174_1
                   clear hi174_1 hl174_1
                   replace p174 := eq_true p174
                   replace q174 := eq_true q174
                   go_wp2_with (first | ((with_reducible refine zbl (N := 6) rfl ?_); (try (refine zbN (by rfl) ?_; dsimp only)); refine zbH ?hg (N := 6) ?hd (cs := #[.string (⟨#[]⟩ : ByteArray), .slice none 0 0, .string (⟨#[]⟩ : ByteArray)]) (t := 57) ?hr ?_; (case hd => rfl); (case hg => rfl); (case hr => first | (go_simp; done) | (go_simp; rfl)); intro gb175 hg w41 hbox hb; have n0_ := zaa.mk (zb8 (g := gb172) (o := .cells #[.string ((zal l0 x3_1).f0), .string ((zal l0 x3_1).f1), .slice A171_2 ((zal l0 x3_1).f2).length c171_2, .slice (some ad174) ((zal l0 x3_1).f3).length c171_3] 44 (0, 0)) (by (with_reducible repeat (first | refine zaL ?_ _ | refine zaO ?_ | refine zaM ?_ _)); exact BK172.out) hb); have n1_ := zaa.mk (zai (by repeat (first | (with_reducible first | exact HB.out | apply zac | apply zab | apply zae | refine zaE ?_ GE172.out) | exact HB.out)) hb); have n2_ := zaa.mk (hbox); have n3_ := zaa.mk ((by rw [hg]; exact (zaI (by repeat (first | (with_reducible first | exact HB.out | apply zac | apply zab | apply zae | refine zaE ?_ GE172.out) | exact HB.out))) : w.heap.size ≤ gb175)); have n4_ := zaa.mk ((by rw [hg]; exact (zaI (by repeat (first | (with_reducible first | exact HB.out | apply zac | apply zab | apply zae | refine zaE ?_ GE172.out) | exact HB.out))) : w.heap.size ≤ gb175)); have n5_ := zaa.mk ((by rw [hg]; exact Nat.ne_of_lt (zch (g := gb172) (o := .cells #[.string ((zal l0 x3_1).f0), .string ((zal l0 x3_1).f1), .slice A171_2 ((zal l0 x3_1).f2).length c171_2, .slice (some ad174) ((zal l0 x3_1).f3).length c171_3] 44 (0, 0)) (by (with_reducible repeat (first | refine zaL ?_ _ | refine zaO ?_ | refine zaM ?_ _)); exact BK172.out)) : gb172 ≠ gb175)); have n6_ := zaa.mk ((by rw [hg]; exact Nat.ne_of_gt (zch (g := gb172) (o := .cells #[.string ((zal l0 x3_1).f0), .string ((zal l0 x3_1).f1), .slice A171_2 ((zal l0 x3_1).f2).length c171_2, .slice (some ad174) ((zal l0 x3_1).f3).length c171_3] 44 (0, 0)) (by (with_reducible repeat (first | refine zaL ?_ _ | refine zaO ?_ | refine zaM ?_ _)); exact BK172.out)) : gb175 ≠ gb172)); clear BK172; clear HB; have BK172 := n0_; have HB := n1_; have BK175 := n2_; have GW175 := n3_; have GE175 := n4_; have NB172_175 := n5_; have NB175_172 := n6_; clear n0_ n1_ n2_ n3_ n4_ n5_ n6_; clear hb hbox hg; have hnb42 := NB175_172.out; have hnc42 := NB172_175.out; have hcz43_0 : w41.cell? ⟨gb175, 0, none⟩ = some (.string (⟨#[]⟩ : ByteArray)) := (zaK BK175.out 0).trans rfl; have hcz43_1 : w41.cell? ⟨gb175, 1, none⟩ = some (.slice none 0 0) := (zaK BK175.out 1).trans rfl; have hcz43_2 : w41.cell? ⟨gb175, 2, none⟩ = some (.string (⟨#[]⟩ : ByteArray)) := (zaK BK175.out 2).trans rfl; have hfz43_0 := zaD BK175.out 0; have hfz43_1 := zaD BK175.out 1; have hfz43_2 := zaD BK175.out 2) | (go_at_call 26; (with_reducible refine (zaz.calls k4 _ _ ((zaV ((zal l0 x3_1).f3) x5_4).f1) true _ ?side1 ?side2 A38.out).mono ?_); (case side1 => exact Kd.zan HR174_1.out (by repeat (first | (with_reducible first | exact HB.out | apply zac | apply zab | apply zae | refine zaE ?_ GE172.out | refine zaE ?_ GE175.out) | exact HB.out))); (case side2 => exact HC174_1.out); rintro e w' ⟨rfl, ⟨nd, rfl⟩⟩))
                   go_ret
                   exact ⟨by first | rfl | (simp [zaP, zaQ] <;> rfl) | (simp [*, zaP, zaQ] <;> rfl), by repeat (first | (with_reducible first | exact HB.out | apply zac | apply zab | apply zae | refine zaE ?_ GE172.out | refine zaE ?_ GE175.out) | exact HB.out)⟩
                  ·
                   replace c39 := Bool.eq_false_iff.mpr c39
                   subst c39
                   have H1 : (zah.l1 k4 l0 x3_1 (wrap64 (x5_4 + 1)) ((zal l0 x3_1).f0) ((zal l0 x3_1).f1) ((zal l0 x3_1).f2) ((zal l0 x3_1).f3)) = some r := by rw [if_neg (show ¬ (false = true) by decide)] at H; exact H
                   clear H
                   have H := H1
                   clear H1
                   have H' := zaa.mk H
                   clear H
                   have hcz44_0 : wr.cell? ⟨gb172, 0, none⟩ = some (.string ((zal l0 x3_1).f0)) := (zaK BK172.out 0).trans rfl
                   have hcz44_1 : wr.cell? ⟨gb172, 1, none⟩ = some (.string ((zal l0 x3_1).f1)) := (zaK BK172.out 1).trans rfl
                   have hcz44_2 : wr.cell? ⟨gb172, 2, none⟩ = some (.slice A171_2 ((zal l0 x3_1).f2).length c171_2) := (zaK BK172.out 2).trans rfl
                   have hcz44_3 : wr.cell? ⟨gb172, 3, none⟩ = some (.slice A171_3 ((zal l0 x3_1).f3).length c171_3) := (zaK BK172.out 3).trans rfl
                   have hfz44_0 := zaD BK172.out 0
                   have hfz44_1 := zaD BK172.out 1
                   have hfz44_2 := zaD BK172.out 2
                   have hfz44_3 := zaD BK172.out 3
                   have p174 : 0 ≤ (x5_4 : Int) := of_decide_eq_true (by first | (with_reducible assumption) | assumption)
                   have q174 : x5_4 < (((zal l0 x3_1).f3).length : Int) := of_decide_eq_true (by first | (with_reducible assumption) | assumption)
                   obtain ⟨ad174, A174_1, c174_1, e174, hx174_0, hx174_1, hx174_2, hl174_1, hi174_1⟩ := zcA HR171_3.out x5_4 p174 q174
                   cases e174
                   replace hx174_0 := (HB.out.cell (World.block_lt_of_cell? w _ hx174_0)).trans hx174_0
                   replace hx174_1 := (HB.out.cell (World.block_lt_of_cell? w _ hx174_1)).trans hx174_1
                   replace hx174_2 := (HB.out.cell (World.block_lt_of_cell? w _ hx174_2)).trans hx174_2
                   have HR174_1 := zaa.mk hi174_1
                   have HC174_1 := zaa.mk hl174_1
                   clear hi174_1 hl174_1
                   replace p174 := eq_true p174
                   replace q174 := eq_true q174
                   go_wp2_with (first | ((with_reducible refine zbl (N := 6) rfl ?_); (try (refine zbN (by rfl) ?_; dsimp only)); refine zbH ?hg (N := 6) ?hd (cs := #[.string (⟨#[]⟩ : ByteArray), .slice none 0 0, .string (⟨#[]⟩ : ByteArray)]) (t := 57) ?hr ?_; (case hd => rfl); (case hg => rfl); (case hr => first | (go_simp; done) | (go_simp; rfl)); intro gb175 hg w45 hbox hb; have n0_ := zaa.mk (zb8 (g := gb172) (o := .cells #[.string ((zal l0 x3_1).f0), .string ((zal l0 x3_1).f1), .slice A171_2 ((zal l0 x3_1).f2).length c171_2, .slice (some ad174) ((zal l0 x3_1).f3).length c171_3] 44 (0, 0)) (by (with_reducible repeat (first | refine zaL ?_ _ | refine zaO ?_ | refine zaM ?_ _)); exact BK172.out) hb); have n1_ := zaa.mk (zai (by repeat (first | (with_reducible first | exact HB.out | apply zac | apply zab | apply zae | refine zaE ?_ GE172.out) | exact HB.out)) hb); have n2_ := zaa.mk (hbox); have n3_ := zaa.mk ((by rw [hg]; exact (zaI (by repeat (first | (with_reducible first | exact HB.out | apply zac | apply zab | apply zae | refine zaE ?_ GE172.out) | exact HB.out))) : w.heap.size ≤ gb175)); have n4_ := zaa.mk ((by rw [hg]; exact (zaI (by repeat (first | (with_reducible first | exact HB.out | apply zac | apply zab | apply zae | refine zaE ?_ GE172.out) | exact HB.out))) : w.heap.size ≤ gb175)); have n5_ := zaa.mk ((by rw [hg]; exact Nat.ne_of_lt (zch (g := gb172) (o := .cells #[.string ((zal l0 x3_1).f0), .string ((zal l0 x3_1).f1), .slice A171_2 ((zal l0 x3_1).f2).length c171_2, .slice (some ad174) ((zal l0 x3_1).f3).length c171_3] 44 (0, 0)) (by (with_reducible repeat (first | refine zaL ?_ _ | refine zaO ?_ | refine zaM ?_ _)); exact BK172.out)) : gb172 ≠ gb175)); have n6_ := zaa.mk ((by rw [hg]; exact Nat.ne_of_gt (zch (g := gb172) (o := .cells #[.string ((zal l0 x3_1).f0), .string ((zal l0 x3_1).f1), .slice A171_2 ((zal l0 x3_1).f2).length c171_2, .slice (some ad174) ((zal l0 x3_1).f3).length c171_3] 44 (0, 0)) (by (with_reducible repeat (first | refine zaL ?_ _ | refine zaO ?_ | refine zaM ?_ _)); exact BK172.out)) : gb175 ≠ gb172)); clear BK172; clear HB; have BK172 := n0_; have HB := n1_; have BK175 := n2_; have GW175 := n3_; have GE175 := n4_; have NB172_175 := n5_; have NB175_172 := n6_; clear n0_ n1_ n2_ n3_ n4_ n5_ n6_; clear hb hbox hg; have hnb46 := NB175_172.out; have hnc46 := NB172_175.out; have hcz47_0 : w45.cell? ⟨gb175, 0, none⟩ = some (.string (⟨#[]⟩ : ByteArray)) := (zaK BK175.out 0).trans rfl; have hcz47_1 : w45.cell? ⟨gb175, 1, none⟩ = some (.slice none 0 0) := (zaK BK175.out 1).trans rfl; have hcz47_2 : w45.cell? ⟨gb175, 2, none⟩ = some (.string (⟨#[]⟩ : ByteArray)) := (zaK BK175.out 2).trans rfl; have hfz47_0 := zaD BK175.out 0; have hfz47_1 := zaD BK175.out 1; have hfz47_2 := zaD BK175.out 2) | (go_at_call 26; (with_reducible refine (zaz.calls k4 _ _ ((zaV ((zal l0 x3_1).f3) x5_4).f1) false _ ?side1 ?side2 A38.out).mono ?_); (case side1 => exact Kd.zan HR174_1.out (by repeat (first | (with_reducible first | exact HB.out | apply zac | apply zab | apply zae | refine zaE ?_ GE172.out | refine zaE ?_ GE175.out) | exact HB.out))); (case side2 => exact HC174_1.out); rintro e w' ⟨rfl, ⟨nd, rfl⟩⟩))
                   go_roundg k4
                   case measure => have := HK1.out; have := HJ1.out; have := HJ6.out; have := HK4.out; omega
                   case rel => exact ⟨(wrap64 (x5_4 + 1)), (by first | rfl | (simp; done) | (simp [*]; done)), H', ⟨by have := HK1.out; have := HJ1.out; have := HJ6.out; have := HK4.out; omega⟩, ⟨by (with_reducible repeat (first | refine zaL ?_ _ | refine zaO ?_ | refine zaM ?_ _)); refine ze8 ?_ NB172_175.out _; (with_reducible repeat (first | refine zaL ?_ _ | refine zaO ?_ | refine zaM ?_ _)); refine ze8 ?_ NB172_175.out _; (with_reducible repeat (first | refine zaL ?_ _ | refine zaO ?_ | refine zaM ?_ _)); refine ze8 ?_ NB172_175.out _; (with_reducible repeat (first | refine zaL ?_ _ | refine zaO ?_ | refine zaM ?_ _)); exact BK172.out⟩, ⟨by repeat (first | (with_reducible first | exact HB.out | apply zac | apply zab | apply zae | refine zaE ?_ GE172.out | refine zaE ?_ GE175.out) | exact HB.out)⟩⟩
              ·
               rw [if_neg c22] at H
               exact absurd H s9
             ·
              rw [if_neg c21] at H
              have c21b0 : decide (x5_4 < (((zal l0 x3_1).f3).length : Int)) = false := decide_eq_false c21
              clear c21
              have H' := zaa.mk H
              clear H
              have hcz48_0 : wr.cell? ⟨gb172, 0, none⟩ = some (.string ((zal l0 x3_1).f0)) := (zaK BK172.out 0).trans rfl
              have hcz48_1 : wr.cell? ⟨gb172, 1, none⟩ = some (.string ((zal l0 x3_1).f1)) := (zaK BK172.out 1).trans rfl
              have hcz48_2 : wr.cell? ⟨gb172, 2, none⟩ = some (.slice A171_2 ((zal l0 x3_1).f2).length c171_2) := (zaK BK172.out 2).trans rfl
              have hcz48_3 : wr.cell? ⟨gb172, 3, none⟩ = some (.slice A171_3 ((zal l0 x3_1).f3).length c171_3) := (zaK BK172.out 3).trans rfl
              have hfz48_0 := zaD BK172.out 0
              have hfz48_1 := zaD BK172.out 1
              have hfz48_2 := zaD BK172.out 2
              have hfz48_3 := zaD BK172.out 3
              go_wp2
              go_roundg k4
              case measure => have := HK1.out; have := HJ1.out; have := HJ6.out; have := HK4.out; omega
              case rel => exact ⟨(wrap64 (x3_1 + 1)), (by first | rfl | (simp; done) | (simp [*]; done)), H', ⟨by have := HK1.out; have := HJ1.out; have := HJ6.out; have := HK4.out; omega⟩, ⟨by repeat (first | (with_reducible first | exact HB.out | apply zac | apply zab | apply zae | refine zaE ?_ GE172.out) | exact HB.out)⟩⟩
       ·
        rw [if_neg c6] at H
        exact absurd H s9
      ·
       rw [if_neg c5] at H
       exact absurd H s9
     ·
      replace c4 := Bool.eq_false_iff.mpr c4
      subst c4
      have H1 : (some (decide ((l0.length : Int) > 9))) = some r := by rw [if_neg (show ¬ (false = true) by decide)] at H; exact H
      clear H
      have H := H1
      clear H1
      obtain rfl := Option.some.inj H
      go_wp2
      go_ret
      exact ⟨by first | rfl | (simp [zaP, zaQ] <;> rfl) | (simp [*, zaP, zaQ] <;> rfl), by repeat (first | (with_reducible first | exact HB.out | apply zac | apply zab | apply zae) | exact HB.out)⟩
def zat.l0 : Nat → List (S44) → List ByteArray → Int → Option (List ByteArray)
 | 0, _, _, _ => none
 | k + 1, x0, x3, x4 => if x4 < (x0.length : Int) then (if 0 ≤ x4 then (if x3.length < 8796093022208 then (zat.l0 k x0 (x3 ++ [(zal x0 x4).f0]) (wrap64 (x4 + 1))) else (none)) else (none)) else (some x3)
def zat.f (k : Nat) (l0 : List (S44)) : Option (List ByteArray) := zat.l0 k l0 (([(⟨#[105, 110, 116]⟩ : ByteArray), (⟨#[114, 101, 97, 108]⟩ : ByteArray), (⟨#[98, 111, 111, 108]⟩ : ByteArray), (⟨#[115, 116, 114]⟩ : ByteArray), (⟨#[117, 110, 105, 116]⟩ : ByteArray), (⟨#[63]⟩ : ByteArray)] : List ByteArray)) 0
theorem zat.zbO : ∀ k, (∀ y0 y1 y2, LeO (zat.l0 k y0 y1 y2) (zat.l0 (k + 1) y0 y1 y2))
 | 0 => fun _ _ _ r h => by simp [zat.l0] at h
 | k + 1 => by
  have ih0 := zat.zbO k
  ·
   intro y0 y1 y2
   unfold zat.l0
   repeat' first
   | (with_reducible exact ih0 _ _ _)
   | (with_reducible exact LeO.refl _)
   | (with_reducible exact LeO.none _)
   | (with_reducible refine LeO.ite ?_ ?_)
   | (with_reducible refine LeO.bind ?_ (fun _ => ?_))
   | exact ih0 _ _ _
   | exact LeO.none _
   | refine LeO.ite ?_ ?_
   | refine LeO.bind ?_ (fun _ => ?_)
theorem zat.mono : ∀ a0 k, LeO (zat.f k a0) (zat.f (k + 1) a0) := by
 intro a0 k
 have ih0 := zat.zbO k
 unfold zat.f
 repeat' first
   | (with_reducible exact ih0 _ _ _)
   | (with_reducible exact LeO.refl _)
   | (with_reducible exact LeO.none _)
   | (with_reducible refine LeO.ite ?_ ?_)
   | (with_reducible refine LeO.bind ?_ (fun _ => ?_))
   | exact ih0 _ _ _
   | exact LeO.none _
   | refine LeO.ite ?_ ?_
   | refine LeO.bind ?_ (fun _ => ?_)
theorem zat.calls (k : Nat) (A0 : Option Addr) (c0 : Nat) (l0 : List (S44)) (r : List ByteArray) (w : World) (hr0 : Kd.C k44 w A0 l0.length l0) (hc0 : l0.length ≤ c0) (h : zat.f k l0 = some r) :
  Calls Tryd.prog 15 #[.slice A0 l0.length c0] w fun e w' => ∃ v0_ : Value, e = .returned (v0_) ∧ Kd.R Kd.string 9 w' w.heap.size (fun _ => True) v0_ r ∧ Below w.heap.size w w' := by
 have HR0 := zaa.mk hr0
 have HC0 := zaa.mk hc0
 clear hr0 hc0
 have HB := zaa.mk (Below.refl w.heap.size w)
 have H : (zat.l0 k l0 (([(⟨#[105, 110, 116]⟩ : ByteArray), (⟨#[114, 101, 97, 108]⟩ : ByteArray), (⟨#[98, 111, 111, 108]⟩ : ByteArray), (⟨#[115, 116, 114]⟩ : ByteArray), (⟨#[117, 110, 105, 116]⟩ : ByteArray), (⟨#[63]⟩ : ByteArray)] : List ByteArray)) 0) = some r := h
 clear h
 obtain ⟨y177, hy177⟩ : ∃ y_ : List ByteArray, y_ = (([(⟨#[105, 110, 116]⟩ : ByteArray), (⟨#[114, 101, 97, 108]⟩ : ByteArray), (⟨#[98, 111, 111, 108]⟩ : ByteArray), (⟨#[115, 116, 114]⟩ : ByteArray), (⟨#[117, 110, 105, 116]⟩ : ByteArray), (⟨#[63]⟩ : ByteArray)] : List ByteArray)) := ⟨_, rfl⟩
 replace H : (zat.l0 k l0 y177 0) = some r := by first | (rw [hy177]; with_reducible exact H) | (have H2_ := (Option.bind_some _ _).symm.trans H; rw [hy177]; with_reducible exact H2_) | (have H2_ := (Option.bind_some _ _).symm.trans H; with_reducible exact H2_) | with_reducible exact H | (rw [hy177]; exact H) | exact H
 have Ny177 := zaa.mk hy177
 clear hy177
 have H' := zaa.mk H
 clear H
 go_enter Tryd.func15, Tryd.ntmps15
 go_wp2_with (first | ((with_reducible refine zbl (N := 5) rfl ?_); refine Kd.R_lit Kd.string _ 9 ?hg (N := 5) ?hd (xs := ([(⟨#[105, 110, 116]⟩ : ByteArray), (⟨#[114, 101, 97, 108]⟩ : ByteArray), (⟨#[98, 111, 111, 108]⟩ : ByteArray), (⟨#[115, 116, 114]⟩ : ByteArray), (⟨#[117, 110, 105, 116]⟩ : ByteArray), (⟨#[63]⟩ : ByteArray)] : List ByteArray)) (inner := [.string (⟨#[105, 110, 116]⟩ : ByteArray), .string (⟨#[114, 101, 97, 108]⟩ : ByteArray), .string (⟨#[98, 111, 111, 108]⟩ : ByteArray), .string (⟨#[115, 116, 114]⟩ : ByteArray), .string (⟨#[117, 110, 105, 116]⟩ : ByteArray), .string (⟨#[63]⟩ : ByteArray)]) (ok := fun _ => True) (okp := fun _ => True) ?hr ?hp (fun _ hk => hk) trivial (Below.refl _ _) (Nat.le_refl _) s9 ?_; (case hd => rfl); (case hg => rfl); (case hr => first | (go_simp; done) | (go_simp; rfl)); (case hp => exact (Reps.one (show Kd.M Kd.string _ _ _ (⟨#[105, 110, 116]⟩ : ByteArray) [.string (⟨#[105, 110, 116]⟩ : ByteArray)] from rfl) (Reps.one (show Kd.M Kd.string _ _ _ (⟨#[114, 101, 97, 108]⟩ : ByteArray) [.string (⟨#[114, 101, 97, 108]⟩ : ByteArray)] from rfl) (Reps.one (show Kd.M Kd.string _ _ _ (⟨#[98, 111, 111, 108]⟩ : ByteArray) [.string (⟨#[98, 111, 111, 108]⟩ : ByteArray)] from rfl) (Reps.one (show Kd.M Kd.string _ _ _ (⟨#[115, 116, 114]⟩ : ByteArray) [.string (⟨#[115, 116, 114]⟩ : ByteArray)] from rfl) (Reps.one (show Kd.M Kd.string _ _ _ (⟨#[117, 110, 105, 116]⟩ : ByteArray) [.string (⟨#[117, 110, 105, 116]⟩ : ByteArray)] from rfl) (Reps.one (show Kd.M Kd.string _ _ _ (⟨#[63]⟩ : ByteArray) [.string (⟨#[63]⟩ : ByteArray)] from rfl) (Reps.none _ _)))))))); intro v178 w2 ho3 hb hg_ hnew_; clear hg_ hnew_; (first | rw [← Ny177.out] at ho3 | (simp only [Int.reduceToNat] at ho3; rw [← Ny177.out] at ho3)); have n0_ := zaa.mk (Kd.za3 ho3 (zaI (by repeat (first | (with_reducible first | exact HB.out | apply zac | apply zab | apply zae) | exact HB.out)))); have n1_ := zaa.mk (zai (by repeat (first | (with_reducible first | exact HB.out | apply zac | apply zab | apply zae) | exact HB.out)) hb); clear HB; have HO179 := n0_; have HB := n1_; clear n0_ n1_; clear hb ho3))
 go_loopg [3, 4] k (fun kq v3 v4 w' => ∃ (x3_1 : List ByteArray) (x4_1 : Int), v4 = .int .i64 x4_1 ∧ zaa (zat.l0 kq l0 x3_1 x4_1 = some r) ∧ zaa (kq ≤ k) ∧ zaa (Kd.R Kd.string 9 w' w.heap.size (fun _ => True) v3 x3_1) ∧ zaa (Below w.heap.size w w'))
 case atStart => exact ⟨(y177), (0), (by first | rfl | (simp; done) | (simp [*]; done)), H', ⟨Nat.le_refl _⟩, ⟨by (with_reducible repeat (first | apply Kd.zao | apply Kd.zar | apply Kd.zaB)); exact HO179.out⟩, ⟨by repeat (first | (with_reducible first | exact HB.out | apply zac | apply zab | apply zae) | exact HB.out)⟩⟩
 case round =>
  clear H'
  try clear c1
  try clear p2
  obtain ⟨x3_1, x4_1, rfl, HA, HK1, HO_3, HB⟩ := hrel
  cases gk with
  | zero => exact absurd HA.out (by simp [zat.l0])
  | succ k1 =>
   have H := HA.out
   clear HA
   simp only [zat.l0] at H
   by_cases c4 : x4_1 < (l0.length : Int)
   ·
    rw [if_pos c4] at H
    have c4b0 : decide (x4_1 < (l0.length : Int)) = true := decide_eq_true c4
    clear c4
    by_cases c5 : 0 ≤ x4_1
    ·
     rw [if_pos c5] at H
     have c5b0 : decide (0 ≤ x4_1) = true := decide_eq_true c5
     clear c5
     by_cases c6 : x3_1.length < 8796093022208
     ·
      rw [if_pos c6] at H
      have LMc6 := zaa.mk c6
      clear c6
      obtain ⟨y181, hy181⟩ : ∃ y_ : List ByteArray, y_ = (x3_1 ++ [(zal l0 x4_1).f0]) := ⟨_, rfl⟩
      replace H : (zat.l0 k1 l0 y181 (wrap64 (x4_1 + 1))) = some r := by first | (rw [hy181]; with_reducible exact H) | (have H2_ := (Option.bind_some _ _).symm.trans H; rw [hy181]; with_reducible exact H2_) | (have H2_ := (Option.bind_some _ _).symm.trans H; with_reducible exact H2_) | with_reducible exact H | (rw [hy181]; exact H) | exact H
      have Ny181 := zaa.mk hy181
      clear hy181
      have H' := zaa.mk H
      clear H
      have p180 : 0 ≤ (x4_1 : Int) := of_decide_eq_true (by first | (with_reducible assumption) | assumption)
      have q180 : x4_1 < (l0.length : Int) := of_decide_eq_true (by first | (with_reducible assumption) | assumption)
      obtain ⟨ad180, A180_2, c180_2, A180_3, c180_3, e180, hx180_0, hx180_1, hx180_2, hx180_3, hl180_2, hi180_2, hl180_3, hi180_3⟩ := zbT HR0.out x4_1 p180 q180
      cases e180
      replace hx180_0 := (HB.out.cell (World.block_lt_of_cell? w _ hx180_0)).trans hx180_0
      replace hx180_1 := (HB.out.cell (World.block_lt_of_cell? w _ hx180_1)).trans hx180_1
      replace hx180_2 := (HB.out.cell (World.block_lt_of_cell? w _ hx180_2)).trans hx180_2
      replace hx180_3 := (HB.out.cell (World.block_lt_of_cell? w _ hx180_3)).trans hx180_3
      have HR180_2 := zaa.mk hi180_2
      have HC180_2 := zaa.mk hl180_2
      clear hi180_2 hl180_2
      have HR180_3 := zaa.mk hi180_3
      have HC180_3 := zaa.mk hl180_3
      clear hi180_3 hl180_3
      replace p180 := eq_true p180
      replace q180 := eq_true q180
      go_wp2_with (first | ((with_reducible refine zb1 (b := .append) (xs := #[.tmp 12, .tmp 18]) rfl ?_); at_builtin; refine Kd.zc4 Kd.string (w0 := w) w.heap.size rfl (.tmp 12) (.tmp 18) 28 9 (.string ⟨#[]⟩) 16 rfl Tryd.underlying28 info9 rfl d9 o9 u3 x3_1 ((zal l0 x4_1).f0) [.string ((zal l0 x4_1).f0)] (fun _ => True) (fun _ => False) rfl rfl ?aP (fun _ hk => hk.elim) ?aF ?aO ?aB ?aS ?aL ?_; (case aP => exact rfl); (case aB => exact (by repeat (first | (with_reducible first | exact HB.out | apply zac | apply zab | apply zae) | exact HB.out))); (case aF => exact (fun _ _ => trivial)); (case aO => exact (by (with_reducible repeat (first | apply Kd.zao | apply Kd.zar | apply Kd.zaB)); exact HO_3.out)); (case aS => exact (zaI (by repeat (first | (with_reducible first | exact HB.out | apply zac | apply zab | apply zae) | exact HB.out)))); (case aL => have := LMc6.out; omega); intro v182 w7 ho hb hg hat; rw [← Ny181.out] at ho; have n0_ := zaa.mk (hb); have n1_ := zaa.mk (ho); clear HB; clear HO_3; have HB := n0_; have HO183 := n1_; clear n0_ n1_; clear ho hb hg hat))
      go_roundg k1
      case measure => have := HK1.out; omega
      case rel => exact ⟨(y181), (wrap64 (x4_1 + 1)), (by first | rfl | (simp; done) | (simp [*]; done)), H', ⟨by have := HK1.out; omega⟩, ⟨by (with_reducible repeat (first | apply Kd.zao | apply Kd.zar | apply Kd.zaB)); exact HO183.out⟩, ⟨by repeat (first | (with_reducible first | exact HB.out | apply zac | apply zab | apply zae) | exact HB.out)⟩⟩
     ·
      rw [if_neg c6] at H
      exact absurd H s9
    ·
     rw [if_neg c5] at H
     exact absurd H s9
   ·
    rw [if_neg c4] at H
    have c4b0 : decide (x4_1 < (l0.length : Int)) = false := decide_eq_false c4
    clear c4
    obtain rfl := Option.some.inj H
    go_wp2
    go_ret
    exact ⟨_, by first | rfl | (simp [zaP, zaQ] <;> rfl) | (simp [*, zaP, zaQ] <;> rfl), by (with_reducible repeat (first | apply Kd.zao | apply Kd.zar | apply Kd.zaB)); exact HO_3.out, by repeat (first | (with_reducible first | exact HB.out | apply zac | apply zab | apply zae) | exact HB.out)⟩
def zak.f (a0 : Int) (a1 : Int) : Option (Int) := if a1 ≤ 0 then (some 0) else (if a1 = 0 then (none) else (if (Int.tmod a0 a1) < 0 then (some (wrap64 ((Int.tmod a0 a1) + a1))) else (some (Int.tmod a0 a1))))
theorem zak.calls (a0 : Int) (a1 : Int) (r : Int) (w : World) (h : zak.f a0 a1 = some r) :
  Calls Tryd.prog 16 #[.int .i64 a0, .int .i64 a1] w fun e w' => e = .returned (.int .i64 r) ∧ zbb w w' := by
 have H : (if a1 ≤ 0 then (some 0) else (if a1 = 0 then (none) else (if (Int.tmod a0 a1) < 0 then (some (wrap64 ((Int.tmod a0 a1) + a1))) else (some (Int.tmod a0 a1))))) = some r := h
 clear h
 by_cases c3 : a1 ≤ 0
 ·
  rw [if_pos c3] at H
  have c3b0 : decide (a1 ≤ 0) = true := decide_eq_true c3
  clear c3
  obtain rfl := Option.some.inj H
  go_enter Tryd.func16, Tryd.ntmps16
  go_wp2
  go_ret
  exact ⟨by first | rfl | (simp; done) | (simp [*]; done), by repeat (first | exact zbb.refl _ | apply zbb.step)⟩
 ·
  rw [if_neg c3] at H
  have c3b0 : decide (a1 ≤ 0) = false := decide_eq_false c3
  clear c3
  by_cases c4 : a1 = 0
  ·
   rw [if_pos c4] at H
   exact absurd H s9
  ·
   rw [if_neg c4] at H
   have c4b0 : (a1 == 0) = false := beq_eq_false_iff_ne.mpr c4
   have c4b1 : (a1 != 0) = true := bne_iff_ne.mpr c4
   by_cases c5 : (Int.tmod a0 a1) < 0
   ·
    rw [if_pos c5] at H
    have c5b0 : decide ((Int.tmod a0 a1) < 0) = true := decide_eq_true c5
    clear c5
    obtain rfl := Option.some.inj H
    go_enter Tryd.func16, Tryd.ntmps16
    go_wp2
    go_ret
    exact ⟨by first | rfl | (simp; done) | (simp [*]; done), by repeat (first | exact zbb.refl _ | apply zbb.step)⟩
   ·
    rw [if_neg c5] at H
    have c5b0 : decide ((Int.tmod a0 a1) < 0) = false := decide_eq_false c5
    clear c5
    obtain rfl := Option.some.inj H
    go_enter Tryd.func16, Tryd.ntmps16
    go_wp2
    go_ret
    exact ⟨by first | rfl | (simp; done) | (simp [*]; done), by repeat (first | exact zbb.refl _ | apply zbb.step)⟩
def chaperonlaw06_SubtypeOrder.f (k : Nat) (l0 : List (S44)) (a1 : Int) (a2 : Int) (a3 : Int) : Option (Bool) := (zad.f k).bind fun t184 => ((zah.f k l0).bind fun t185 => (if t185 = true then (some t184) else ((zat.f k l0).bind fun t186 => ((zak.f a1 (t186.length : Int)).bind fun t189 => (if 0 ≤ t189 then (if t189 < (t186.length : Int) then ((zak.f a2 (t186.length : Int)).bind fun t191 => (if 0 ≤ t191 then (if t191 < (t186.length : Int) then ((zak.f a3 (t186.length : Int)).bind fun t193 => (if 0 ≤ t193 then (if t193 < (t186.length : Int) then ((zaf.f k l0 (rdOf ByteArray.empty t186 t189) (rdOf ByteArray.empty t186 t191)).bind fun t195 => ((zaf.f k l0 (rdOf ByteArray.empty t186 t191) (rdOf ByteArray.empty t186 t189)).bind fun t196 => ((zaf.f k l0 (rdOf ByteArray.empty t186 t191) (rdOf ByteArray.empty t186 t193)).bind fun t197 => ((zaw.f k l0).bind fun bt198 => (if bt198.1 = 0 then ((zaf.f k l0 (rdOf ByteArray.empty t186 t189) (rdOf ByteArray.empty t186 t189)).bind fun t201 => (if t201 = true then (if t195 = true then (if t196 = true then (if (rdOf ByteArray.empty t186 t189).toList = (rdOf ByteArray.empty t186 t191).toList then (if t197 = true then ((zaf.f k l0 (rdOf ByteArray.empty t186 t189) (rdOf ByteArray.empty t186 t193)).bind fun t202 => (if t202 = true then (some t184) else (none))) else (some t184)) else (none)) else (if t197 = true then ((zaf.f k l0 (rdOf ByteArray.empty t186 t189) (rdOf ByteArray.empty t186 t193)).bind fun t203 => (if t203 = true then (some t184) else (none))) else (some t184))) else (some t184)) else (none))) else (if t184 = true then (if t195 = true then (none) else (if t196 = true then (none) else ((zaf.f k l0 (rdOf ByteArray.empty t186 t189) (rdOf ByteArray.empty t186 t189)).bind fun t200 => (some (!t200))))) else (none))))))) else (none)) else (none))) else (none)) else (none))) else (none)) else (none))))))
theorem chaperonlaw06_SubtypeOrder.mono : ∀ a0 a1 a2 a3 k, LeO (chaperonlaw06_SubtypeOrder.f k a0 a1 a2 a3) (chaperonlaw06_SubtypeOrder.f (k + 1) a0 a1 a2 a3) := by
 intro a0 a1 a2 a3 k
 unfold chaperonlaw06_SubtypeOrder.f
 repeat' first
   | (with_reducible exact zah.mono _ _)
   | (with_reducible exact zad.mono _)
   | (with_reducible exact zat.mono _ _)
   | (with_reducible exact zaf.mono _ _ _ _)
   | (with_reducible exact zaw.mono _ _)
   | (with_reducible exact LeO.refl _)
   | (with_reducible exact LeO.none _)
   | (with_reducible refine LeO.ite ?_ ?_)
   | (with_reducible refine LeO.bind ?_ (fun _ => ?_))
   | exact zah.mono _ _
   | exact zad.mono _
   | exact zat.mono _ _
   | exact zaf.mono _ _ _ _
   | exact zaw.mono _ _
   | exact LeO.none _
   | refine LeO.ite ?_ ?_
   | refine LeO.bind ?_ (fun _ => ?_)
theorem chaperonlaw06_SubtypeOrder.calls (k : Nat) (A0 : Option Addr) (c0 : Nat) (l0 : List (S44)) (a1 : Int) (a2 : Int) (a3 : Int) (r : Bool) (w : World) (hr0 : Kd.C k44 w A0 l0.length l0) (hc0 : l0.length ≤ c0) (h : chaperonlaw06_SubtypeOrder.f k l0 a1 a2 a3 = some r) (hG : Go.Proofs.YtofoegknealilaaDoorTab.GW w := by exact Go.Proofs.YtofoegknealilaaDoorTab.GW.below hG (by repeat (first | (with_reducible first | exact HB.out | apply zac | apply zab | apply zae) | exact HB.out | refine zaE ?_ (zaa.out (by assumption)) | exact Below.refl _ _))) :
  Calls Tryd.prog 4 #[.slice A0 l0.length c0, .int .i64 a1, .int .i64 a2, .int .i64 a3] w fun e w' => e = .returned (.bool r) ∧ Below w.heap.size w w' := by
 have HR0 := zaa.mk hr0
 have HC0 := zaa.mk hc0
 clear hr0 hc0
 have HB := zaa.mk (Below.refl w.heap.size w)
 have hf_ : ∀ (a b : Int) (w : World), (Instr.field 36 (.agg #[.int .i64 a, .int .i64 b]) 0).run Tryd.prog w = .ok (.int .i64 a) w := fun a b w => by simp [Instr.field, asAgg, part, isAgg, go_sem, run_underlying Tryd.underlying36, run_underlying Tryd.underlying34]
 have H : ((zad.f k).bind fun t184 => ((zah.f k l0).bind fun t185 => (if t185 = true then (some t184) else ((zat.f k l0).bind fun t186 => ((zak.f a1 (t186.length : Int)).bind fun t189 => (if 0 ≤ t189 then (if t189 < (t186.length : Int) then ((zak.f a2 (t186.length : Int)).bind fun t191 => (if 0 ≤ t191 then (if t191 < (t186.length : Int) then ((zak.f a3 (t186.length : Int)).bind fun t193 => (if 0 ≤ t193 then (if t193 < (t186.length : Int) then ((zaf.f k l0 (rdOf ByteArray.empty t186 t189) (rdOf ByteArray.empty t186 t191)).bind fun t195 => ((zaf.f k l0 (rdOf ByteArray.empty t186 t191) (rdOf ByteArray.empty t186 t189)).bind fun t196 => ((zaf.f k l0 (rdOf ByteArray.empty t186 t191) (rdOf ByteArray.empty t186 t193)).bind fun t197 => ((zaw.f k l0).bind fun bt198 => (if bt198.1 = 0 then ((zaf.f k l0 (rdOf ByteArray.empty t186 t189) (rdOf ByteArray.empty t186 t189)).bind fun t201 => (if t201 = true then (if t195 = true then (if t196 = true then (if (rdOf ByteArray.empty t186 t189).toList = (rdOf ByteArray.empty t186 t191).toList then (if t197 = true then ((zaf.f k l0 (rdOf ByteArray.empty t186 t189) (rdOf ByteArray.empty t186 t193)).bind fun t202 => (if t202 = true then (some t184) else (none))) else (some t184)) else (none)) else (if t197 = true then ((zaf.f k l0 (rdOf ByteArray.empty t186 t189) (rdOf ByteArray.empty t186 t193)).bind fun t203 => (if t203 = true then (some t184) else (none))) else (some t184))) else (some t184)) else (none))) else (if t184 = true then (if t195 = true then (none) else (if t196 = true then (none) else ((zaf.f k l0 (rdOf ByteArray.empty t186 t189) (rdOf ByteArray.empty t186 t189)).bind fun t200 => (some (!t200))))) else (none))))))) else (none)) else (none))) else (none)) else (none))) else (none)) else (none))))))) = some r := h
 clear h
 replace H := Option.bind_eq_some_iff.mp H
 obtain ⟨t184, A50, H⟩ := H
 replace H : ((zah.f k l0).bind fun t185 => (if t185 = true then (some t184) else ((zat.f k l0).bind fun t186 => ((zak.f a1 (t186.length : Int)).bind fun t189 => (if 0 ≤ t189 then (if t189 < (t186.length : Int) then ((zak.f a2 (t186.length : Int)).bind fun t191 => (if 0 ≤ t191 then (if t191 < (t186.length : Int) then ((zak.f a3 (t186.length : Int)).bind fun t193 => (if 0 ≤ t193 then (if t193 < (t186.length : Int) then ((zaf.f k l0 (rdOf ByteArray.empty t186 t189) (rdOf ByteArray.empty t186 t191)).bind fun t195 => ((zaf.f k l0 (rdOf ByteArray.empty t186 t191) (rdOf ByteArray.empty t186 t189)).bind fun t196 => ((zaf.f k l0 (rdOf ByteArray.empty t186 t191) (rdOf ByteArray.empty t186 t193)).bind fun t197 => ((zaw.f k l0).bind fun bt198 => (if bt198.1 = 0 then ((zaf.f k l0 (rdOf ByteArray.empty t186 t189) (rdOf ByteArray.empty t186 t189)).bind fun t201 => (if t201 = true then (if t195 = true then (if t196 = true then (if (rdOf ByteArray.empty t186 t189).toList = (rdOf ByteArray.empty t186 t191).toList then (if t197 = true then ((zaf.f k l0 (rdOf ByteArray.empty t186 t189) (rdOf ByteArray.empty t186 t193)).bind fun t202 => (if t202 = true then (some t184) else (none))) else (some t184)) else (none)) else (if t197 = true then ((zaf.f k l0 (rdOf ByteArray.empty t186 t189) (rdOf ByteArray.empty t186 t193)).bind fun t203 => (if t203 = true then (some t184) else (none))) else (some t184))) else (some t184)) else (none))) else (if t184 = true then (if t195 = true then (none) else (if t196 = true then (none) else ((zaf.f k l0 (rdOf ByteArray.empty t186 t189) (rdOf ByteArray.empty t186 t189)).bind fun t200 => (some (!t200))))) else (none))))))) else (none)) else (none))) else (none)) else (none))) else (none)) else (none)))))) = some r := H
 have A5 := zaa.mk A50
 clear A50
 replace H := Option.bind_eq_some_iff.mp H
 obtain ⟨t185, A60, H⟩ := H
 replace H : (if t185 = true then (some t184) else ((zat.f k l0).bind fun t186 => ((zak.f a1 (t186.length : Int)).bind fun t189 => (if 0 ≤ t189 then (if t189 < (t186.length : Int) then ((zak.f a2 (t186.length : Int)).bind fun t191 => (if 0 ≤ t191 then (if t191 < (t186.length : Int) then ((zak.f a3 (t186.length : Int)).bind fun t193 => (if 0 ≤ t193 then (if t193 < (t186.length : Int) then ((zaf.f k l0 (rdOf ByteArray.empty t186 t189) (rdOf ByteArray.empty t186 t191)).bind fun t195 => ((zaf.f k l0 (rdOf ByteArray.empty t186 t191) (rdOf ByteArray.empty t186 t189)).bind fun t196 => ((zaf.f k l0 (rdOf ByteArray.empty t186 t191) (rdOf ByteArray.empty t186 t193)).bind fun t197 => ((zaw.f k l0).bind fun bt198 => (if bt198.1 = 0 then ((zaf.f k l0 (rdOf ByteArray.empty t186 t189) (rdOf ByteArray.empty t186 t189)).bind fun t201 => (if t201 = true then (if t195 = true then (if t196 = true then (if (rdOf ByteArray.empty t186 t189).toList = (rdOf ByteArray.empty t186 t191).toList then (if t197 = true then ((zaf.f k l0 (rdOf ByteArray.empty t186 t189) (rdOf ByteArray.empty t186 t193)).bind fun t202 => (if t202 = true then (some t184) else (none))) else (some t184)) else (none)) else (if t197 = true then ((zaf.f k l0 (rdOf ByteArray.empty t186 t189) (rdOf ByteArray.empty t186 t193)).bind fun t203 => (if t203 = true then (some t184) else (none))) else (some t184))) else (some t184)) else (none))) else (if t184 = true then (if t195 = true then (none) else (if t196 = true then (none) else ((zaf.f k l0 (rdOf ByteArray.empty t186 t189) (rdOf ByteArray.empty t186 t189)).bind fun t200 => (some (!t200))))) else (none))))))) else (none)) else (none))) else (none)) else (none))) else (none)) else (none))))) = some r := H
 have A6 := zaa.mk A60
 clear A60
 by_cases c7 : t185 = true
 ·
  subst c7
  have H1 : (some t184) = some r := by rw [if_pos rfl] at H; exact H
  clear H
  have H := H1
  clear H1
  as_aux_lemma =>
   obtain rfl := Option.some.inj H
   go_enter Tryd.func4, Tryd.ntmps4
   go_wp2_with (first | (go_at_call 3; (with_reducible refine (zad.calls k  t184 _ A5.out).mono ?_); rintro e w8 ⟨rfl, hb⟩; have n0_ := zaa.mk (zai (by repeat (first | (with_reducible first | exact HB.out | apply zac | apply zab | apply zae) | exact HB.out)) hb); clear HB; have HB := n0_; clear n0_; (try clear hb); (try clear hb2); (try clear hk); (try clear hi)) | (go_at_call 14; (with_reducible refine (zah.calls k _ _ l0 true _ ?side1 ?side2 A6.out).mono ?_); (case side1 => repeat (first | exact (Kd.zan HR0.out HB.out) | (with_reducible refine Kd.zau ?_ _) | (with_reducible refine Kd.zav ?_ _) | (with_reducible refine Kd.zaC ?_))); (case side2 => exact HC0.out); rintro e w9 ⟨rfl, hb⟩; have n0_ := zaa.mk (zai (by repeat (first | (with_reducible first | exact HB.out | apply zac | apply zab | apply zae) | exact HB.out)) hb); clear HB; have HB := n0_; clear n0_; (try clear hb); (try clear hb2); (try clear hk); (try clear hi)))
   repeat (go_quiet (first | (go_at_call 3; (with_reducible refine (zad.calls k  t184 _ A5.out).mono ?_); rintro e w8 ⟨rfl, hb⟩; have n0_ := zaa.mk (zai (by repeat (first | (with_reducible first | exact HB.out | apply zac | apply zab | apply zae) | exact HB.out)) hb); clear HB; have HB := n0_; clear n0_; (try clear hb); (try clear hb2); (try clear hk); (try clear hi)) | (go_at_call 14; (with_reducible refine (zah.calls k _ _ l0 true _ ?side1 ?side2 A6.out).mono ?_); (case side1 => repeat (first | exact (Kd.zan HR0.out HB.out) | (with_reducible refine Kd.zau ?_ _) | (with_reducible refine Kd.zav ?_ _) | (with_reducible refine Kd.zaC ?_))); (case side2 => exact HC0.out); rintro e w9 ⟨rfl, hb⟩; have n0_ := zaa.mk (zai (by repeat (first | (with_reducible first | exact HB.out | apply zac | apply zab | apply zae) | exact HB.out)) hb); clear HB; have HB := n0_; clear n0_; (try clear hb); (try clear hb2); (try clear hk); (try clear hi))); try go_wp2_with (first | (go_at_call 3; (with_reducible refine (zad.calls k  t184 _ A5.out).mono ?_); rintro e w8 ⟨rfl, hb⟩; have n0_ := zaa.mk (zai (by repeat (first | (with_reducible first | exact HB.out | apply zac | apply zab | apply zae) | exact HB.out)) hb); clear HB; have HB := n0_; clear n0_; (try clear hb); (try clear hb2); (try clear hk); (try clear hi)) | (go_at_call 14; (with_reducible refine (zah.calls k _ _ l0 true _ ?side1 ?side2 A6.out).mono ?_); (case side1 => repeat (first | exact (Kd.zan HR0.out HB.out) | (with_reducible refine Kd.zau ?_ _) | (with_reducible refine Kd.zav ?_ _) | (with_reducible refine Kd.zaC ?_))); (case side2 => exact HC0.out); rintro e w9 ⟨rfl, hb⟩; have n0_ := zaa.mk (zai (by repeat (first | (with_reducible first | exact HB.out | apply zac | apply zab | apply zae) | exact HB.out)) hb); clear HB; have HB := n0_; clear n0_; (try clear hb); (try clear hb2); (try clear hk); (try clear hi))))
   go_ret
   exact ⟨by first | rfl | (simp [zaP, zaQ] <;> rfl) | (simp [*, zaP, zaQ] <;> rfl), by repeat (first | (with_reducible first | exact HB.out | apply zac | apply zab | apply zae) | exact HB.out)⟩
 ·
  replace c7 := Bool.eq_false_iff.mpr c7
  subst c7
  have H1 : ((zat.f k l0).bind fun t186 => ((zak.f a1 (t186.length : Int)).bind fun t189 => (if 0 ≤ t189 then (if t189 < (t186.length : Int) then ((zak.f a2 (t186.length : Int)).bind fun t191 => (if 0 ≤ t191 then (if t191 < (t186.length : Int) then ((zak.f a3 (t186.length : Int)).bind fun t193 => (if 0 ≤ t193 then (if t193 < (t186.length : Int) then ((zaf.f k l0 (rdOf ByteArray.empty t186 t189) (rdOf ByteArray.empty t186 t191)).bind fun t195 => ((zaf.f k l0 (rdOf ByteArray.empty t186 t191) (rdOf ByteArray.empty t186 t189)).bind fun t196 => ((zaf.f k l0 (rdOf ByteArray.empty t186 t191) (rdOf ByteArray.empty t186 t193)).bind fun t197 => ((zaw.f k l0).bind fun bt198 => (if bt198.1 = 0 then ((zaf.f k l0 (rdOf ByteArray.empty t186 t189) (rdOf ByteArray.empty t186 t189)).bind fun t201 => (if t201 = true then (if t195 = true then (if t196 = true then (if (rdOf ByteArray.empty t186 t189).toList = (rdOf ByteArray.empty t186 t191).toList then (if t197 = true then ((zaf.f k l0 (rdOf ByteArray.empty t186 t189) (rdOf ByteArray.empty t186 t193)).bind fun t202 => (if t202 = true then (some t184) else (none))) else (some t184)) else (none)) else (if t197 = true then ((zaf.f k l0 (rdOf ByteArray.empty t186 t189) (rdOf ByteArray.empty t186 t193)).bind fun t203 => (if t203 = true then (some t184) else (none))) else (some t184))) else (some t184)) else (none))) else (if t184 = true then (if t195 = true then (none) else (if t196 = true then (none) else ((zaf.f k l0 (rdOf ByteArray.empty t186 t189) (rdOf ByteArray.empty t186 t189)).bind fun t200 => (some (!t200))))) else (none))))))) else (none)) else (none))) else (none)) else (none))) else (none)) else (none)))) = some r := by rw [if_neg (show ¬ (false = true) by decide)] at H; exact H
  clear H
  have H := H1
  clear H1
  replace H := Option.bind_eq_some_iff.mp H
  obtain ⟨t186, A100, H⟩ := H
  replace H : ((zak.f a1 (t186.length : Int)).bind fun t189 => (if 0 ≤ t189 then (if t189 < (t186.length : Int) then ((zak.f a2 (t186.length : Int)).bind fun t191 => (if 0 ≤ t191 then (if t191 < (t186.length : Int) then ((zak.f a3 (t186.length : Int)).bind fun t193 => (if 0 ≤ t193 then (if t193 < (t186.length : Int) then ((zaf.f k l0 (rdOf ByteArray.empty t186 t189) (rdOf ByteArray.empty t186 t191)).bind fun t195 => ((zaf.f k l0 (rdOf ByteArray.empty t186 t191) (rdOf ByteArray.empty t186 t189)).bind fun t196 => ((zaf.f k l0 (rdOf ByteArray.empty t186 t191) (rdOf ByteArray.empty t186 t193)).bind fun t197 => ((zaw.f k l0).bind fun bt198 => (if bt198.1 = 0 then ((zaf.f k l0 (rdOf ByteArray.empty t186 t189) (rdOf ByteArray.empty t186 t189)).bind fun t201 => (if t201 = true then (if t195 = true then (if t196 = true then (if (rdOf ByteArray.empty t186 t189).toList = (rdOf ByteArray.empty t186 t191).toList then (if t197 = true then ((zaf.f k l0 (rdOf ByteArray.empty t186 t189) (rdOf ByteArray.empty t186 t193)).bind fun t202 => (if t202 = true then (some t184) else (none))) else (some t184)) else (none)) else (if t197 = true then ((zaf.f k l0 (rdOf ByteArray.empty t186 t189) (rdOf ByteArray.empty t186 t193)).bind fun t203 => (if t203 = true then (some t184) else (none))) else (some t184))) else (some t184)) else (none))) else (if t184 = true then (if t195 = true then (none) else (if t196 = true then (none) else ((zaf.f k l0 (rdOf ByteArray.empty t186 t189) (rdOf ByteArray.empty t186 t189)).bind fun t200 => (some (!t200))))) else (none))))))) else (none)) else (none))) else (none)) else (none))) else (none)) else (none))) = some r := H
  have A10 := zaa.mk A100
  clear A100
  replace H := Option.bind_eq_some_iff.mp H
  obtain ⟨t189, A110, H⟩ := H
  replace H : (if 0 ≤ t189 then (if t189 < (t186.length : Int) then ((zak.f a2 (t186.length : Int)).bind fun t191 => (if 0 ≤ t191 then (if t191 < (t186.length : Int) then ((zak.f a3 (t186.length : Int)).bind fun t193 => (if 0 ≤ t193 then (if t193 < (t186.length : Int) then ((zaf.f k l0 (rdOf ByteArray.empty t186 t189) (rdOf ByteArray.empty t186 t191)).bind fun t195 => ((zaf.f k l0 (rdOf ByteArray.empty t186 t191) (rdOf ByteArray.empty t186 t189)).bind fun t196 => ((zaf.f k l0 (rdOf ByteArray.empty t186 t191) (rdOf ByteArray.empty t186 t193)).bind fun t197 => ((zaw.f k l0).bind fun bt198 => (if bt198.1 = 0 then ((zaf.f k l0 (rdOf ByteArray.empty t186 t189) (rdOf ByteArray.empty t186 t189)).bind fun t201 => (if t201 = true then (if t195 = true then (if t196 = true then (if (rdOf ByteArray.empty t186 t189).toList = (rdOf ByteArray.empty t186 t191).toList then (if t197 = true then ((zaf.f k l0 (rdOf ByteArray.empty t186 t189) (rdOf ByteArray.empty t186 t193)).bind fun t202 => (if t202 = true then (some t184) else (none))) else (some t184)) else (none)) else (if t197 = true then ((zaf.f k l0 (rdOf ByteArray.empty t186 t189) (rdOf ByteArray.empty t186 t193)).bind fun t203 => (if t203 = true then (some t184) else (none))) else (some t184))) else (some t184)) else (none))) else (if t184 = true then (if t195 = true then (none) else (if t196 = true then (none) else ((zaf.f k l0 (rdOf ByteArray.empty t186 t189) (rdOf ByteArray.empty t186 t189)).bind fun t200 => (some (!t200))))) else (none))))))) else (none)) else (none))) else (none)) else (none))) else (none)) else (none)) = some r := H
  have A11 := zaa.mk A110
  clear A110
  by_cases c12 : 0 ≤ t189
  ·
   rw [if_pos c12] at H
   have c12b0 : decide (0 ≤ t189) = true := decide_eq_true c12
   clear c12
   by_cases c13 : t189 < (t186.length : Int)
   ·
    rw [if_pos c13] at H
    have c13b0 : decide (t189 < (t186.length : Int)) = true := decide_eq_true c13
    clear c13
    replace H := Option.bind_eq_some_iff.mp H
    obtain ⟨t191, A140, H⟩ := H
    replace H : (if 0 ≤ t191 then (if t191 < (t186.length : Int) then ((zak.f a3 (t186.length : Int)).bind fun t193 => (if 0 ≤ t193 then (if t193 < (t186.length : Int) then ((zaf.f k l0 (rdOf ByteArray.empty t186 t189) (rdOf ByteArray.empty t186 t191)).bind fun t195 => ((zaf.f k l0 (rdOf ByteArray.empty t186 t191) (rdOf ByteArray.empty t186 t189)).bind fun t196 => ((zaf.f k l0 (rdOf ByteArray.empty t186 t191) (rdOf ByteArray.empty t186 t193)).bind fun t197 => ((zaw.f k l0).bind fun bt198 => (if bt198.1 = 0 then ((zaf.f k l0 (rdOf ByteArray.empty t186 t189) (rdOf ByteArray.empty t186 t189)).bind fun t201 => (if t201 = true then (if t195 = true then (if t196 = true then (if (rdOf ByteArray.empty t186 t189).toList = (rdOf ByteArray.empty t186 t191).toList then (if t197 = true then ((zaf.f k l0 (rdOf ByteArray.empty t186 t189) (rdOf ByteArray.empty t186 t193)).bind fun t202 => (if t202 = true then (some t184) else (none))) else (some t184)) else (none)) else (if t197 = true then ((zaf.f k l0 (rdOf ByteArray.empty t186 t189) (rdOf ByteArray.empty t186 t193)).bind fun t203 => (if t203 = true then (some t184) else (none))) else (some t184))) else (some t184)) else (none))) else (if t184 = true then (if t195 = true then (none) else (if t196 = true then (none) else ((zaf.f k l0 (rdOf ByteArray.empty t186 t189) (rdOf ByteArray.empty t186 t189)).bind fun t200 => (some (!t200))))) else (none))))))) else (none)) else (none))) else (none)) else (none)) = some r := H
    have A14 := zaa.mk A140
    clear A140
    by_cases c15 : 0 ≤ t191
    ·
     rw [if_pos c15] at H
     have c15b0 : decide (0 ≤ t191) = true := decide_eq_true c15
     clear c15
     by_cases c16 : t191 < (t186.length : Int)
     ·
      rw [if_pos c16] at H
      have c16b0 : decide (t191 < (t186.length : Int)) = true := decide_eq_true c16
      clear c16
      replace H := Option.bind_eq_some_iff.mp H
      obtain ⟨t193, A170, H⟩ := H
      replace H : (if 0 ≤ t193 then (if t193 < (t186.length : Int) then ((zaf.f k l0 (rdOf ByteArray.empty t186 t189) (rdOf ByteArray.empty t186 t191)).bind fun t195 => ((zaf.f k l0 (rdOf ByteArray.empty t186 t191) (rdOf ByteArray.empty t186 t189)).bind fun t196 => ((zaf.f k l0 (rdOf ByteArray.empty t186 t191) (rdOf ByteArray.empty t186 t193)).bind fun t197 => ((zaw.f k l0).bind fun bt198 => (if bt198.1 = 0 then ((zaf.f k l0 (rdOf ByteArray.empty t186 t189) (rdOf ByteArray.empty t186 t189)).bind fun t201 => (if t201 = true then (if t195 = true then (if t196 = true then (if (rdOf ByteArray.empty t186 t189).toList = (rdOf ByteArray.empty t186 t191).toList then (if t197 = true then ((zaf.f k l0 (rdOf ByteArray.empty t186 t189) (rdOf ByteArray.empty t186 t193)).bind fun t202 => (if t202 = true then (some t184) else (none))) else (some t184)) else (none)) else (if t197 = true then ((zaf.f k l0 (rdOf ByteArray.empty t186 t189) (rdOf ByteArray.empty t186 t193)).bind fun t203 => (if t203 = true then (some t184) else (none))) else (some t184))) else (some t184)) else (none))) else (if t184 = true then (if t195 = true then (none) else (if t196 = true then (none) else ((zaf.f k l0 (rdOf ByteArray.empty t186 t189) (rdOf ByteArray.empty t186 t189)).bind fun t200 => (some (!t200))))) else (none))))))) else (none)) else (none)) = some r := H
      have A17 := zaa.mk A170
      clear A170
      by_cases c18 : 0 ≤ t193
      ·
       rw [if_pos c18] at H
       have c18b0 : decide (0 ≤ t193) = true := decide_eq_true c18
       clear c18
       by_cases c19 : t193 < (t186.length : Int)
       ·
        rw [if_pos c19] at H
        have c19b0 : decide (t193 < (t186.length : Int)) = true := decide_eq_true c19
        clear c19
        replace H := Option.bind_eq_some_iff.mp H
        obtain ⟨t195, A200, H⟩ := H
        replace H : ((zaf.f k l0 (rdOf ByteArray.empty t186 t191) (rdOf ByteArray.empty t186 t189)).bind fun t196 => ((zaf.f k l0 (rdOf ByteArray.empty t186 t191) (rdOf ByteArray.empty t186 t193)).bind fun t197 => ((zaw.f k l0).bind fun bt198 => (if bt198.1 = 0 then ((zaf.f k l0 (rdOf ByteArray.empty t186 t189) (rdOf ByteArray.empty t186 t189)).bind fun t201 => (if t201 = true then (if t195 = true then (if t196 = true then (if (rdOf ByteArray.empty t186 t189).toList = (rdOf ByteArray.empty t186 t191).toList then (if t197 = true then ((zaf.f k l0 (rdOf ByteArray.empty t186 t189) (rdOf ByteArray.empty t186 t193)).bind fun t202 => (if t202 = true then (some t184) else (none))) else (some t184)) else (none)) else (if t197 = true then ((zaf.f k l0 (rdOf ByteArray.empty t186 t189) (rdOf ByteArray.empty t186 t193)).bind fun t203 => (if t203 = true then (some t184) else (none))) else (some t184))) else (some t184)) else (none))) else (if t184 = true then (if t195 = true then (none) else (if t196 = true then (none) else ((zaf.f k l0 (rdOf ByteArray.empty t186 t189) (rdOf ByteArray.empty t186 t189)).bind fun t200 => (some (!t200))))) else (none)))))) = some r := H
        have A20 := zaa.mk A200
        clear A200
        replace H := Option.bind_eq_some_iff.mp H
        obtain ⟨t196, A210, H⟩ := H
        replace H : ((zaf.f k l0 (rdOf ByteArray.empty t186 t191) (rdOf ByteArray.empty t186 t193)).bind fun t197 => ((zaw.f k l0).bind fun bt198 => (if bt198.1 = 0 then ((zaf.f k l0 (rdOf ByteArray.empty t186 t189) (rdOf ByteArray.empty t186 t189)).bind fun t201 => (if t201 = true then (if t195 = true then (if t196 = true then (if (rdOf ByteArray.empty t186 t189).toList = (rdOf ByteArray.empty t186 t191).toList then (if t197 = true then ((zaf.f k l0 (rdOf ByteArray.empty t186 t189) (rdOf ByteArray.empty t186 t193)).bind fun t202 => (if t202 = true then (some t184) else (none))) else (some t184)) else (none)) else (if t197 = true then ((zaf.f k l0 (rdOf ByteArray.empty t186 t189) (rdOf ByteArray.empty t186 t193)).bind fun t203 => (if t203 = true then (some t184) else (none))) else (some t184))) else (some t184)) else (none))) else (if t184 = true then (if t195 = true then (none) else (if t196 = true then (none) else ((zaf.f k l0 (rdOf ByteArray.empty t186 t189) (rdOf ByteArray.empty t186 t189)).bind fun t200 => (some (!t200))))) else (none))))) = some r := H
        have A21 := zaa.mk A210
        clear A210
        replace H := Option.bind_eq_some_iff.mp H
        obtain ⟨t197, A220, H⟩ := H
        replace H : ((zaw.f k l0).bind fun bt198 => (if bt198.1 = 0 then ((zaf.f k l0 (rdOf ByteArray.empty t186 t189) (rdOf ByteArray.empty t186 t189)).bind fun t201 => (if t201 = true then (if t195 = true then (if t196 = true then (if (rdOf ByteArray.empty t186 t189).toList = (rdOf ByteArray.empty t186 t191).toList then (if t197 = true then ((zaf.f k l0 (rdOf ByteArray.empty t186 t189) (rdOf ByteArray.empty t186 t193)).bind fun t202 => (if t202 = true then (some t184) else (none))) else (some t184)) else (none)) else (if t197 = true then ((zaf.f k l0 (rdOf ByteArray.empty t186 t189) (rdOf ByteArray.empty t186 t193)).bind fun t203 => (if t203 = true then (some t184) else (none))) else (some t184))) else (some t184)) else (none))) else (if t184 = true then (if t195 = true then (none) else (if t196 = true then (none) else ((zaf.f k l0 (rdOf ByteArray.empty t186 t189) (rdOf ByteArray.empty t186 t189)).bind fun t200 => (some (!t200))))) else (none)))) = some r := H
        have A22 := zaa.mk A220
        clear A220
        replace H := Option.bind_eq_some_iff.mp H
        obtain ⟨⟨t198, t199⟩, A230, H⟩ := H
        replace H : (if t198 = 0 then ((zaf.f k l0 (rdOf ByteArray.empty t186 t189) (rdOf ByteArray.empty t186 t189)).bind fun t201 => (if t201 = true then (if t195 = true then (if t196 = true then (if (rdOf ByteArray.empty t186 t189).toList = (rdOf ByteArray.empty t186 t191).toList then (if t197 = true then ((zaf.f k l0 (rdOf ByteArray.empty t186 t189) (rdOf ByteArray.empty t186 t193)).bind fun t202 => (if t202 = true then (some t184) else (none))) else (some t184)) else (none)) else (if t197 = true then ((zaf.f k l0 (rdOf ByteArray.empty t186 t189) (rdOf ByteArray.empty t186 t193)).bind fun t203 => (if t203 = true then (some t184) else (none))) else (some t184))) else (some t184)) else (none))) else (if t184 = true then (if t195 = true then (none) else (if t196 = true then (none) else ((zaf.f k l0 (rdOf ByteArray.empty t186 t189) (rdOf ByteArray.empty t186 t189)).bind fun t200 => (some (!t200))))) else (none))) = some r := H
        have A23 := zaa.mk A230
        clear A230
        by_cases c24 : t198 = 0
        ·
         rw [if_pos c24] at H
         have c24b0 : (t198 == 0) = true := beq_iff_eq.mpr c24
         have c24b1 : (t198 != 0) = false := bne_eq_false_iff_eq.mpr c24
         clear c24
         replace H := Option.bind_eq_some_iff.mp H
         obtain ⟨t201, A250, H⟩ := H
         replace H : (if t201 = true then (if t195 = true then (if t196 = true then (if (rdOf ByteArray.empty t186 t189).toList = (rdOf ByteArray.empty t186 t191).toList then (if t197 = true then ((zaf.f k l0 (rdOf ByteArray.empty t186 t189) (rdOf ByteArray.empty t186 t193)).bind fun t202 => (if t202 = true then (some t184) else (none))) else (some t184)) else (none)) else (if t197 = true then ((zaf.f k l0 (rdOf ByteArray.empty t186 t189) (rdOf ByteArray.empty t186 t193)).bind fun t203 => (if t203 = true then (some t184) else (none))) else (some t184))) else (some t184)) else (none)) = some r := H
         have A25 := zaa.mk A250
         clear A250
         by_cases c26 : t201 = true
         ·
          subst c26
          have H1 : (if t195 = true then (if t196 = true then (if (rdOf ByteArray.empty t186 t189).toList = (rdOf ByteArray.empty t186 t191).toList then (if t197 = true then ((zaf.f k l0 (rdOf ByteArray.empty t186 t189) (rdOf ByteArray.empty t186 t193)).bind fun t202 => (if t202 = true then (some t184) else (none))) else (some t184)) else (none)) else (if t197 = true then ((zaf.f k l0 (rdOf ByteArray.empty t186 t189) (rdOf ByteArray.empty t186 t193)).bind fun t203 => (if t203 = true then (some t184) else (none))) else (some t184))) else (some t184)) = some r := by rw [if_pos rfl] at H; exact H
          clear H
          have H := H1
          clear H1
          by_cases c27 : t195 = true
          ·
           subst c27
           have H1 : (if t196 = true then (if (rdOf ByteArray.empty t186 t189).toList = (rdOf ByteArray.empty t186 t191).toList then (if t197 = true then ((zaf.f k l0 (rdOf ByteArray.empty t186 t189) (rdOf ByteArray.empty t186 t193)).bind fun t202 => (if t202 = true then (some t184) else (none))) else (some t184)) else (none)) else (if t197 = true then ((zaf.f k l0 (rdOf ByteArray.empty t186 t189) (rdOf ByteArray.empty t186 t193)).bind fun t203 => (if t203 = true then (some t184) else (none))) else (some t184))) = some r := by rw [if_pos rfl] at H; exact H
           clear H
           have H := H1
           clear H1
           by_cases c28 : t196 = true
           ·
            subst c28
            have H1 : (if (rdOf ByteArray.empty t186 t189).toList = (rdOf ByteArray.empty t186 t191).toList then (if t197 = true then ((zaf.f k l0 (rdOf ByteArray.empty t186 t189) (rdOf ByteArray.empty t186 t193)).bind fun t202 => (if t202 = true then (some t184) else (none))) else (some t184)) else (none)) = some r := by rw [if_pos rfl] at H; exact H
            clear H
            have H := H1
            clear H1
            by_cases c29 : (rdOf ByteArray.empty t186 t189).toList = (rdOf ByteArray.empty t186 t191).toList
            ·
             rw [if_pos c29] at H
             have c29b0 : ((rdOf ByteArray.empty t186 t189).toList == (rdOf ByteArray.empty t186 t191).toList) = true := beq_iff_eq.mpr c29
             have c29b1 : ((rdOf ByteArray.empty t186 t189).toList != (rdOf ByteArray.empty t186 t191).toList) = false := bne_eq_false_iff_eq.mpr c29
             clear c29
             by_cases c30 : t197 = true
             ·
              subst c30
              have H1 : ((zaf.f k l0 (rdOf ByteArray.empty t186 t189) (rdOf ByteArray.empty t186 t193)).bind fun t202 => (if t202 = true then (some t184) else (none))) = some r := by rw [if_pos rfl] at H; exact H
              clear H
              have H := H1
              clear H1
              replace H := Option.bind_eq_some_iff.mp H
              obtain ⟨t202, A310, H⟩ := H
              replace H : (if t202 = true then (some t184) else (none)) = some r := H
              have A31 := zaa.mk A310
              clear A310
              by_cases c32 : t202 = true
              ·
               subst c32
               have H1 : (some t184) = some r := by rw [if_pos rfl] at H; exact H
               clear H
               have H := H1
               clear H1
               as_aux_lemma =>
                obtain rfl := Option.some.inj H
                go_enter Tryd.func4, Tryd.ntmps4
                go_wp2_with (first | (go_at_call 3; (with_reducible refine (zad.calls k  t184 _ A5.out).mono ?_); rintro e w33 ⟨rfl, hb⟩; have n0_ := zaa.mk (zai (by repeat (first | (with_reducible first | exact HB.out | apply zac | apply zab | apply zae) | exact HB.out)) hb); clear HB; have HB := n0_; clear n0_; (try clear hb); (try clear hb2); (try clear hk); (try clear hi)) | (go_at_call 14; (with_reducible refine (zah.calls k _ _ l0 false _ ?side1 ?side2 A6.out).mono ?_); (case side1 => repeat (first | exact (Kd.zan HR0.out HB.out) | (with_reducible refine Kd.zau ?_ _) | (with_reducible refine Kd.zav ?_ _) | (with_reducible refine Kd.zaC ?_))); (case side2 => exact HC0.out); rintro e w34 ⟨rfl, hb⟩; have n0_ := zaa.mk (zai (by repeat (first | (with_reducible first | exact HB.out | apply zac | apply zab | apply zae) | exact HB.out)) hb); clear HB; have HB := n0_; clear n0_; (try clear hb); (try clear hb2); (try clear hk); (try clear hi)) | (go_at_call 15; (with_reducible refine (zat.calls k _ _ l0 t186 _ ?side1 ?side2 A10.out).mono ?_); (case side1 => repeat (first | exact (Kd.zan HR0.out HB.out) | (with_reducible refine Kd.zau ?_ _) | (with_reducible refine Kd.zav ?_ _) | (with_reducible refine Kd.zaC ?_))); (case side2 => exact HC0.out); rintro e w35 ⟨v187, rfl, ho0, hb⟩; have n0_ := zaa.mk (Kd.za3 ho0 (zaI (by repeat (first | (with_reducible first | exact HB.out | apply zac | apply zab | apply zae) | exact HB.out)))); have n1_ := zaa.mk (zai (by repeat (first | (with_reducible first | exact HB.out | apply zac | apply zab | apply zae) | exact HB.out)) hb); clear HB; have HO188 := n0_; have HB := n1_; clear n0_ n1_; (try clear hb); (try clear hb2); (try clear hk); (try clear hi); (try clear ho0); obtain ⟨Ao36, co36, eo36⟩ := Kd.zaW HO188.out; subst eo36) | (go_at_call 16; (with_reducible refine (zak.calls a1 (t186.length : Int) t189 _ A11.out).mono ?_); rintro e w' ⟨rfl, ⟨nd, rfl⟩⟩; (try first | exact ⟨rfl, _, World.drewN_drewN _ _ _⟩ | exact ⟨rfl, _, Eq.trans (World.drewN_drewN _ _ _) (congrArg (World.drewN _) (Nat.add_assoc _ _ _))⟩); have p190 : 0 ≤ (t189 : Int) := of_decide_eq_true (by first | (with_reducible assumption) | assumption); have q190 : t189 < (t186.length : Int) := of_decide_eq_true (by first | (with_reducible assumption) | assumption); obtain ⟨ad190, e190, hx190_0⟩ := Kd.zaN (Kd.zas HO188.out).2.2 t189 p190 q190; cases e190; replace p190 := eq_true p190; replace q190 := eq_true q190) | (go_at_call 16; (with_reducible refine (zak.calls a2 (t186.length : Int) t191 _ A14.out).mono ?_); rintro e w' ⟨rfl, ⟨nd, rfl⟩⟩; (try first | exact ⟨rfl, _, World.drewN_drewN _ _ _⟩ | exact ⟨rfl, _, Eq.trans (World.drewN_drewN _ _ _) (congrArg (World.drewN _) (Nat.add_assoc _ _ _))⟩); have p192 : 0 ≤ (t191 : Int) := of_decide_eq_true (by first | (with_reducible assumption) | assumption); have q192 : t191 < (t186.length : Int) := of_decide_eq_true (by first | (with_reducible assumption) | assumption); obtain ⟨ad192, e192, hx192_0⟩ := Kd.zaN (Kd.zas HO188.out).2.2 t191 p192 q192; obtain rfl : ad190 = ad192 := (by injection e192); replace p192 := eq_true p192; replace q192 := eq_true q192) | (go_at_call 16; (with_reducible refine (zak.calls a3 (t186.length : Int) t193 _ A17.out).mono ?_); rintro e w' ⟨rfl, ⟨nd, rfl⟩⟩; (try first | exact ⟨rfl, _, World.drewN_drewN _ _ _⟩ | exact ⟨rfl, _, Eq.trans (World.drewN_drewN _ _ _) (congrArg (World.drewN _) (Nat.add_assoc _ _ _))⟩); have p194 : 0 ≤ (t193 : Int) := of_decide_eq_true (by first | (with_reducible assumption) | assumption); have q194 : t193 < (t186.length : Int) := of_decide_eq_true (by first | (with_reducible assumption) | assumption); obtain ⟨ad194, e194, hx194_0⟩ := Kd.zaN (Kd.zas HO188.out).2.2 t193 p194 q194; obtain rfl : ad190 = ad194 := (by injection e194); replace p194 := eq_true p194; replace q194 := eq_true q194) | (go_at_call 8; (with_reducible refine (zaf.calls k _ _ l0 (rdOf ByteArray.empty t186 t189) (rdOf ByteArray.empty t186 t191) true _ ?side1 ?side2 A20.out).mono ?_); (case side1 => repeat (first | exact (Kd.zan HR0.out (by repeat (first | (with_reducible first | exact HB.out | apply zac | apply zab | apply zae) | exact HB.out))) | (with_reducible refine Kd.zau ?_ _) | (with_reducible refine Kd.zav ?_ _) | (with_reducible refine Kd.zaC ?_))); (case side2 => exact HC0.out); rintro e w37 ⟨rfl, hb⟩; have n0_ := zaa.mk (Kd.zax (by (with_reducible repeat (first | apply Kd.zao | apply Kd.zar | apply Kd.zaB)); exact HO188.out) hb); have n1_ := zaa.mk (zai (by repeat (first | (with_reducible first | exact HB.out | apply zac | apply zab | apply zae) | exact HB.out)) hb); clear HO188; clear HB; have HO188 := n0_; have HB := n1_; clear n0_ n1_; (try clear hb); (try clear hb2); (try clear hk); (try clear hi)) | (go_at_call 8; (with_reducible refine (zaf.calls k _ _ l0 (rdOf ByteArray.empty t186 t191) (rdOf ByteArray.empty t186 t189) true _ ?side1 ?side2 A21.out).mono ?_); (case side1 => repeat (first | exact (Kd.zan HR0.out HB.out) | (with_reducible refine Kd.zau ?_ _) | (with_reducible refine Kd.zav ?_ _) | (with_reducible refine Kd.zaC ?_))); (case side2 => exact HC0.out); rintro e w38 ⟨rfl, hb⟩; have n0_ := zaa.mk (Kd.zax (by (with_reducible repeat (first | apply Kd.zao | apply Kd.zar | apply Kd.zaB)); exact HO188.out) hb); have n1_ := zaa.mk (zai (by repeat (first | (with_reducible first | exact HB.out | apply zac | apply zab | apply zae) | exact HB.out)) hb); clear HO188; clear HB; have HO188 := n0_; have HB := n1_; clear n0_ n1_; (try clear hb); (try clear hb2); (try clear hk); (try clear hi)) | (go_at_call 8; (with_reducible refine (zaf.calls k _ _ l0 (rdOf ByteArray.empty t186 t191) (rdOf ByteArray.empty t186 t193) true _ ?side1 ?side2 A22.out).mono ?_); (case side1 => repeat (first | exact (Kd.zan HR0.out HB.out) | (with_reducible refine Kd.zau ?_ _) | (with_reducible refine Kd.zav ?_ _) | (with_reducible refine Kd.zaC ?_))); (case side2 => exact HC0.out); rintro e w39 ⟨rfl, hb⟩; have n0_ := zaa.mk (Kd.zax (by (with_reducible repeat (first | apply Kd.zao | apply Kd.zar | apply Kd.zaB)); exact HO188.out) hb); have n1_ := zaa.mk (zai (by repeat (first | (with_reducible first | exact HB.out | apply zac | apply zab | apply zae) | exact HB.out)) hb); clear HO188; clear HB; have HO188 := n0_; have HB := n1_; clear n0_ n1_; (try clear hb); (try clear hb2); (try clear hk); (try clear hi)) | (go_at_call 17; (with_reducible refine (zaw.calls k _ _ l0 t198 t199 _ ?side1 ?side2 A23.out).mono ?_); (case side1 => repeat (first | exact (Kd.zan HR0.out HB.out) | (with_reducible refine Kd.zau ?_ _) | (with_reducible refine Kd.zav ?_ _) | (with_reducible refine Kd.zaC ?_))); (case side2 => exact HC0.out); rintro e w40 ⟨rfl, hb⟩; have n0_ := zaa.mk (Kd.zax (by (with_reducible repeat (first | apply Kd.zao | apply Kd.zar | apply Kd.zaB)); exact HO188.out) hb); have n1_ := zaa.mk (zai (by repeat (first | (with_reducible first | exact HB.out | apply zac | apply zab | apply zae) | exact HB.out)) hb); clear HO188; clear HB; have HO188 := n0_; have HB := n1_; clear n0_ n1_; (try clear hb); (try clear hb2); (try clear hk); (try clear hi)) | (go_at_call 8; (with_reducible refine (zaf.calls k _ _ l0 (rdOf ByteArray.empty t186 t189) (rdOf ByteArray.empty t186 t189) true _ ?side1 ?side2 A25.out).mono ?_); (case side1 => repeat (first | exact (Kd.zan HR0.out HB.out) | (with_reducible refine Kd.zau ?_ _) | (with_reducible refine Kd.zav ?_ _) | (with_reducible refine Kd.zaC ?_))); (case side2 => exact HC0.out); rintro e w41 ⟨rfl, hb⟩; have n0_ := zaa.mk (Kd.zax (by (with_reducible repeat (first | apply Kd.zao | apply Kd.zar | apply Kd.zaB)); exact HO188.out) hb); have n1_ := zaa.mk (zai (by repeat (first | (with_reducible first | exact HB.out | apply zac | apply zab | apply zae) | exact HB.out)) hb); clear HO188; clear HB; have HO188 := n0_; have HB := n1_; clear n0_ n1_; (try clear hb); (try clear hb2); (try clear hk); (try clear hi)) | (go_at_call 8; (with_reducible refine (zaf.calls k _ _ l0 (rdOf ByteArray.empty t186 t189) (rdOf ByteArray.empty t186 t193) true _ ?side1 ?side2 A31.out).mono ?_); (case side1 => repeat (first | exact (Kd.zan HR0.out HB.out) | (with_reducible refine Kd.zau ?_ _) | (with_reducible refine Kd.zav ?_ _) | (with_reducible refine Kd.zaC ?_))); (case side2 => exact HC0.out); rintro e w42 ⟨rfl, hb⟩; have n0_ := zaa.mk (Kd.zax (by (with_reducible repeat (first | apply Kd.zao | apply Kd.zar | apply Kd.zaB)); exact HO188.out) hb); have n1_ := zaa.mk (zai (by repeat (first | (with_reducible first | exact HB.out | apply zac | apply zab | apply zae) | exact HB.out)) hb); clear HO188; clear HB; have HO188 := n0_; have HB := n1_; clear n0_ n1_; (try clear hb); (try clear hb2); (try clear hk); (try clear hi)))
                repeat (go_quiet (first | (go_at_call 3; (with_reducible refine (zad.calls k  t184 _ A5.out).mono ?_); rintro e w33 ⟨rfl, hb⟩; have n0_ := zaa.mk (zai (by repeat (first | (with_reducible first | exact HB.out | apply zac | apply zab | apply zae) | exact HB.out)) hb); clear HB; have HB := n0_; clear n0_; (try clear hb); (try clear hb2); (try clear hk); (try clear hi)) | (go_at_call 14; (with_reducible refine (zah.calls k _ _ l0 false _ ?side1 ?side2 A6.out).mono ?_); (case side1 => repeat (first | exact (Kd.zan HR0.out HB.out) | (with_reducible refine Kd.zau ?_ _) | (with_reducible refine Kd.zav ?_ _) | (with_reducible refine Kd.zaC ?_))); (case side2 => exact HC0.out); rintro e w34 ⟨rfl, hb⟩; have n0_ := zaa.mk (zai (by repeat (first | (with_reducible first | exact HB.out | apply zac | apply zab | apply zae) | exact HB.out)) hb); clear HB; have HB := n0_; clear n0_; (try clear hb); (try clear hb2); (try clear hk); (try clear hi)) | (go_at_call 15; (with_reducible refine (zat.calls k _ _ l0 t186 _ ?side1 ?side2 A10.out).mono ?_); (case side1 => repeat (first | exact (Kd.zan HR0.out HB.out) | (with_reducible refine Kd.zau ?_ _) | (with_reducible refine Kd.zav ?_ _) | (with_reducible refine Kd.zaC ?_))); (case side2 => exact HC0.out); rintro e w35 ⟨v187, rfl, ho0, hb⟩; have n0_ := zaa.mk (Kd.za3 ho0 (zaI (by repeat (first | (with_reducible first | exact HB.out | apply zac | apply zab | apply zae) | exact HB.out)))); have n1_ := zaa.mk (zai (by repeat (first | (with_reducible first | exact HB.out | apply zac | apply zab | apply zae) | exact HB.out)) hb); clear HB; have HO188 := n0_; have HB := n1_; clear n0_ n1_; (try clear hb); (try clear hb2); (try clear hk); (try clear hi); (try clear ho0); obtain ⟨Ao36, co36, eo36⟩ := Kd.zaW HO188.out; subst eo36) | (go_at_call 16; (with_reducible refine (zak.calls a1 (t186.length : Int) t189 _ A11.out).mono ?_); rintro e w' ⟨rfl, ⟨nd, rfl⟩⟩; (try first | exact ⟨rfl, _, World.drewN_drewN _ _ _⟩ | exact ⟨rfl, _, Eq.trans (World.drewN_drewN _ _ _) (congrArg (World.drewN _) (Nat.add_assoc _ _ _))⟩); have p190 : 0 ≤ (t189 : Int) := of_decide_eq_true (by first | (with_reducible assumption) | assumption); have q190 : t189 < (t186.length : Int) := of_decide_eq_true (by first | (with_reducible assumption) | assumption); obtain ⟨ad190, e190, hx190_0⟩ := Kd.zaN (Kd.zas HO188.out).2.2 t189 p190 q190; cases e190; replace p190 := eq_true p190; replace q190 := eq_true q190) | (go_at_call 16; (with_reducible refine (zak.calls a2 (t186.length : Int) t191 _ A14.out).mono ?_); rintro e w' ⟨rfl, ⟨nd, rfl⟩⟩; (try first | exact ⟨rfl, _, World.drewN_drewN _ _ _⟩ | exact ⟨rfl, _, Eq.trans (World.drewN_drewN _ _ _) (congrArg (World.drewN _) (Nat.add_assoc _ _ _))⟩); have p192 : 0 ≤ (t191 : Int) := of_decide_eq_true (by first | (with_reducible assumption) | assumption); have q192 : t191 < (t186.length : Int) := of_decide_eq_true (by first | (with_reducible assumption) | assumption); obtain ⟨ad192, e192, hx192_0⟩ := Kd.zaN (Kd.zas HO188.out).2.2 t191 p192 q192; obtain rfl : ad190 = ad192 := (by injection e192); replace p192 := eq_true p192; replace q192 := eq_true q192) | (go_at_call 16; (with_reducible refine (zak.calls a3 (t186.length : Int) t193 _ A17.out).mono ?_); rintro e w' ⟨rfl, ⟨nd, rfl⟩⟩; (try first | exact ⟨rfl, _, World.drewN_drewN _ _ _⟩ | exact ⟨rfl, _, Eq.trans (World.drewN_drewN _ _ _) (congrArg (World.drewN _) (Nat.add_assoc _ _ _))⟩); have p194 : 0 ≤ (t193 : Int) := of_decide_eq_true (by first | (with_reducible assumption) | assumption); have q194 : t193 < (t186.length : Int) := of_decide_eq_true (by first | (with_reducible assumption) | assumption); obtain ⟨ad194, e194, hx194_0⟩ := Kd.zaN (Kd.zas HO188.out).2.2 t193 p194 q194; obtain rfl : ad190 = ad194 := (by injection e194); replace p194 := eq_true p194; replace q194 := eq_true q194) | (go_at_call 8; (with_reducible refine (zaf.calls k _ _ l0 (rdOf ByteArray.empty t186 t189) (rdOf ByteArray.empty t186 t191) true _ ?side1 ?side2 A20.out).mono ?_); (case side1 => repeat (first | exact (Kd.zan HR0.out (by repeat (first | (with_reducible first | exact HB.out | apply zac | apply zab | apply zae) | exact HB.out))) | (with_reducible refine Kd.zau ?_ _) | (with_reducible refine Kd.zav ?_ _) | (with_reducible refine Kd.zaC ?_))); (case side2 => exact HC0.out); rintro e w37 ⟨rfl, hb⟩; have n0_ := zaa.mk (Kd.zax (by (with_reducible repeat (first | apply Kd.zao | apply Kd.zar | apply Kd.zaB)); exact HO188.out) hb); have n1_ := zaa.mk (zai (by repeat (first | (with_reducible first | exact HB.out | apply zac | apply zab | apply zae) | exact HB.out)) hb); clear HO188; clear HB; have HO188 := n0_; have HB := n1_; clear n0_ n1_; (try clear hb); (try clear hb2); (try clear hk); (try clear hi)) | (go_at_call 8; (with_reducible refine (zaf.calls k _ _ l0 (rdOf ByteArray.empty t186 t191) (rdOf ByteArray.empty t186 t189) true _ ?side1 ?side2 A21.out).mono ?_); (case side1 => repeat (first | exact (Kd.zan HR0.out HB.out) | (with_reducible refine Kd.zau ?_ _) | (with_reducible refine Kd.zav ?_ _) | (with_reducible refine Kd.zaC ?_))); (case side2 => exact HC0.out); rintro e w38 ⟨rfl, hb⟩; have n0_ := zaa.mk (Kd.zax (by (with_reducible repeat (first | apply Kd.zao | apply Kd.zar | apply Kd.zaB)); exact HO188.out) hb); have n1_ := zaa.mk (zai (by repeat (first | (with_reducible first | exact HB.out | apply zac | apply zab | apply zae) | exact HB.out)) hb); clear HO188; clear HB; have HO188 := n0_; have HB := n1_; clear n0_ n1_; (try clear hb); (try clear hb2); (try clear hk); (try clear hi)) | (go_at_call 8; (with_reducible refine (zaf.calls k _ _ l0 (rdOf ByteArray.empty t186 t191) (rdOf ByteArray.empty t186 t193) true _ ?side1 ?side2 A22.out).mono ?_); (case side1 => repeat (first | exact (Kd.zan HR0.out HB.out) | (with_reducible refine Kd.zau ?_ _) | (with_reducible refine Kd.zav ?_ _) | (with_reducible refine Kd.zaC ?_))); (case side2 => exact HC0.out); rintro e w39 ⟨rfl, hb⟩; have n0_ := zaa.mk (Kd.zax (by (with_reducible repeat (first | apply Kd.zao | apply Kd.zar | apply Kd.zaB)); exact HO188.out) hb); have n1_ := zaa.mk (zai (by repeat (first | (with_reducible first | exact HB.out | apply zac | apply zab | apply zae) | exact HB.out)) hb); clear HO188; clear HB; have HO188 := n0_; have HB := n1_; clear n0_ n1_; (try clear hb); (try clear hb2); (try clear hk); (try clear hi)) | (go_at_call 17; (with_reducible refine (zaw.calls k _ _ l0 t198 t199 _ ?side1 ?side2 A23.out).mono ?_); (case side1 => repeat (first | exact (Kd.zan HR0.out HB.out) | (with_reducible refine Kd.zau ?_ _) | (with_reducible refine Kd.zav ?_ _) | (with_reducible refine Kd.zaC ?_))); (case side2 => exact HC0.out); rintro e w40 ⟨rfl, hb⟩; have n0_ := zaa.mk (Kd.zax (by (with_reducible repeat (first | apply Kd.zao | apply Kd.zar | apply Kd.zaB)); exact HO188.out) hb); have n1_ := zaa.mk (zai (by repeat (first | (with_reducible first | exact HB.out | apply zac | apply zab | apply zae) | exact HB.out)) hb); clear HO188; clear HB; have HO188 := n0_; have HB := n1_; clear n0_ n1_; (try clear hb); (try clear hb2); (try clear hk); (try clear hi)) | (go_at_call 8; (with_reducible refine (zaf.calls k _ _ l0 (rdOf ByteArray.empty t186 t189) (rdOf ByteArray.empty t186 t189) true _ ?side1 ?side2 A25.out).mono ?_); (case side1 => repeat (first | exact (Kd.zan HR0.out HB.out) | (with_reducible refine Kd.zau ?_ _) | (with_reducible refine Kd.zav ?_ _) | (with_reducible refine Kd.zaC ?_))); (case side2 => exact HC0.out); rintro e w41 ⟨rfl, hb⟩; have n0_ := zaa.mk (Kd.zax (by (with_reducible repeat (first | apply Kd.zao | apply Kd.zar | apply Kd.zaB)); exact HO188.out) hb); have n1_ := zaa.mk (zai (by repeat (first | (with_reducible first | exact HB.out | apply zac | apply zab | apply zae) | exact HB.out)) hb); clear HO188; clear HB; have HO188 := n0_; have HB := n1_; clear n0_ n1_; (try clear hb); (try clear hb2); (try clear hk); (try clear hi)) | (go_at_call 8; (with_reducible refine (zaf.calls k _ _ l0 (rdOf ByteArray.empty t186 t189) (rdOf ByteArray.empty t186 t193) true _ ?side1 ?side2 A31.out).mono ?_); (case side1 => repeat (first | exact (Kd.zan HR0.out HB.out) | (with_reducible refine Kd.zau ?_ _) | (with_reducible refine Kd.zav ?_ _) | (with_reducible refine Kd.zaC ?_))); (case side2 => exact HC0.out); rintro e w42 ⟨rfl, hb⟩; have n0_ := zaa.mk (Kd.zax (by (with_reducible repeat (first | apply Kd.zao | apply Kd.zar | apply Kd.zaB)); exact HO188.out) hb); have n1_ := zaa.mk (zai (by repeat (first | (with_reducible first | exact HB.out | apply zac | apply zab | apply zae) | exact HB.out)) hb); clear HO188; clear HB; have HO188 := n0_; have HB := n1_; clear n0_ n1_; (try clear hb); (try clear hb2); (try clear hk); (try clear hi))); try go_wp2_with (first | (go_at_call 3; (with_reducible refine (zad.calls k  t184 _ A5.out).mono ?_); rintro e w33 ⟨rfl, hb⟩; have n0_ := zaa.mk (zai (by repeat (first | (with_reducible first | exact HB.out | apply zac | apply zab | apply zae) | exact HB.out)) hb); clear HB; have HB := n0_; clear n0_; (try clear hb); (try clear hb2); (try clear hk); (try clear hi)) | (go_at_call 14; (with_reducible refine (zah.calls k _ _ l0 false _ ?side1 ?side2 A6.out).mono ?_); (case side1 => repeat (first | exact (Kd.zan HR0.out HB.out) | (with_reducible refine Kd.zau ?_ _) | (with_reducible refine Kd.zav ?_ _) | (with_reducible refine Kd.zaC ?_))); (case side2 => exact HC0.out); rintro e w34 ⟨rfl, hb⟩; have n0_ := zaa.mk (zai (by repeat (first | (with_reducible first | exact HB.out | apply zac | apply zab | apply zae) | exact HB.out)) hb); clear HB; have HB := n0_; clear n0_; (try clear hb); (try clear hb2); (try clear hk); (try clear hi)) | (go_at_call 15; (with_reducible refine (zat.calls k _ _ l0 t186 _ ?side1 ?side2 A10.out).mono ?_); (case side1 => repeat (first | exact (Kd.zan HR0.out HB.out) | (with_reducible refine Kd.zau ?_ _) | (with_reducible refine Kd.zav ?_ _) | (with_reducible refine Kd.zaC ?_))); (case side2 => exact HC0.out); rintro e w35 ⟨v187, rfl, ho0, hb⟩; have n0_ := zaa.mk (Kd.za3 ho0 (zaI (by repeat (first | (with_reducible first | exact HB.out | apply zac | apply zab | apply zae) | exact HB.out)))); have n1_ := zaa.mk (zai (by repeat (first | (with_reducible first | exact HB.out | apply zac | apply zab | apply zae) | exact HB.out)) hb); clear HB; have HO188 := n0_; have HB := n1_; clear n0_ n1_; (try clear hb); (try clear hb2); (try clear hk); (try clear hi); (try clear ho0); obtain ⟨Ao36, co36, eo36⟩ := Kd.zaW HO188.out; subst eo36) | (go_at_call 16; (with_reducible refine (zak.calls a1 (t186.length : Int) t189 _ A11.out).mono ?_); rintro e w' ⟨rfl, ⟨nd, rfl⟩⟩; (try first | exact ⟨rfl, _, World.drewN_drewN _ _ _⟩ | exact ⟨rfl, _, Eq.trans (World.drewN_drewN _ _ _) (congrArg (World.drewN _) (Nat.add_assoc _ _ _))⟩); have p190 : 0 ≤ (t189 : Int) := of_decide_eq_true (by first | (with_reducible assumption) | assumption); have q190 : t189 < (t186.length : Int) := of_decide_eq_true (by first | (with_reducible assumption) | assumption); obtain ⟨ad190, e190, hx190_0⟩ := Kd.zaN (Kd.zas HO188.out).2.2 t189 p190 q190; cases e190; replace p190 := eq_true p190; replace q190 := eq_true q190) | (go_at_call 16; (with_reducible refine (zak.calls a2 (t186.length : Int) t191 _ A14.out).mono ?_); rintro e w' ⟨rfl, ⟨nd, rfl⟩⟩; (try first | exact ⟨rfl, _, World.drewN_drewN _ _ _⟩ | exact ⟨rfl, _, Eq.trans (World.drewN_drewN _ _ _) (congrArg (World.drewN _) (Nat.add_assoc _ _ _))⟩); have p192 : 0 ≤ (t191 : Int) := of_decide_eq_true (by first | (with_reducible assumption) | assumption); have q192 : t191 < (t186.length : Int) := of_decide_eq_true (by first | (with_reducible assumption) | assumption); obtain ⟨ad192, e192, hx192_0⟩ := Kd.zaN (Kd.zas HO188.out).2.2 t191 p192 q192; obtain rfl : ad190 = ad192 := (by injection e192); replace p192 := eq_true p192; replace q192 := eq_true q192) | (go_at_call 16; (with_reducible refine (zak.calls a3 (t186.length : Int) t193 _ A17.out).mono ?_); rintro e w' ⟨rfl, ⟨nd, rfl⟩⟩; (try first | exact ⟨rfl, _, World.drewN_drewN _ _ _⟩ | exact ⟨rfl, _, Eq.trans (World.drewN_drewN _ _ _) (congrArg (World.drewN _) (Nat.add_assoc _ _ _))⟩); have p194 : 0 ≤ (t193 : Int) := of_decide_eq_true (by first | (with_reducible assumption) | assumption); have q194 : t193 < (t186.length : Int) := of_decide_eq_true (by first | (with_reducible assumption) | assumption); obtain ⟨ad194, e194, hx194_0⟩ := Kd.zaN (Kd.zas HO188.out).2.2 t193 p194 q194; obtain rfl : ad190 = ad194 := (by injection e194); replace p194 := eq_true p194; replace q194 := eq_true q194) | (go_at_call 8; (with_reducible refine (zaf.calls k _ _ l0 (rdOf ByteArray.empty t186 t189) (rdOf ByteArray.empty t186 t191) true _ ?side1 ?side2 A20.out).mono ?_); (case side1 => repeat (first | exact (Kd.zan HR0.out (by repeat (first | (with_reducible first | exact HB.out | apply zac | apply zab | apply zae) | exact HB.out))) | (with_reducible refine Kd.zau ?_ _) | (with_reducible refine Kd.zav ?_ _) | (with_reducible refine Kd.zaC ?_))); (case side2 => exact HC0.out); rintro e w37 ⟨rfl, hb⟩; have n0_ := zaa.mk (Kd.zax (by (with_reducible repeat (first | apply Kd.zao | apply Kd.zar | apply Kd.zaB)); exact HO188.out) hb); have n1_ := zaa.mk (zai (by repeat (first | (with_reducible first | exact HB.out | apply zac | apply zab | apply zae) | exact HB.out)) hb); clear HO188; clear HB; have HO188 := n0_; have HB := n1_; clear n0_ n1_; (try clear hb); (try clear hb2); (try clear hk); (try clear hi)) | (go_at_call 8; (with_reducible refine (zaf.calls k _ _ l0 (rdOf ByteArray.empty t186 t191) (rdOf ByteArray.empty t186 t189) true _ ?side1 ?side2 A21.out).mono ?_); (case side1 => repeat (first | exact (Kd.zan HR0.out HB.out) | (with_reducible refine Kd.zau ?_ _) | (with_reducible refine Kd.zav ?_ _) | (with_reducible refine Kd.zaC ?_))); (case side2 => exact HC0.out); rintro e w38 ⟨rfl, hb⟩; have n0_ := zaa.mk (Kd.zax (by (with_reducible repeat (first | apply Kd.zao | apply Kd.zar | apply Kd.zaB)); exact HO188.out) hb); have n1_ := zaa.mk (zai (by repeat (first | (with_reducible first | exact HB.out | apply zac | apply zab | apply zae) | exact HB.out)) hb); clear HO188; clear HB; have HO188 := n0_; have HB := n1_; clear n0_ n1_; (try clear hb); (try clear hb2); (try clear hk); (try clear hi)) | (go_at_call 8; (with_reducible refine (zaf.calls k _ _ l0 (rdOf ByteArray.empty t186 t191) (rdOf ByteArray.empty t186 t193) true _ ?side1 ?side2 A22.out).mono ?_); (case side1 => repeat (first | exact (Kd.zan HR0.out HB.out) | (with_reducible refine Kd.zau ?_ _) | (with_reducible refine Kd.zav ?_ _) | (with_reducible refine Kd.zaC ?_))); (case side2 => exact HC0.out); rintro e w39 ⟨rfl, hb⟩; have n0_ := zaa.mk (Kd.zax (by (with_reducible repeat (first | apply Kd.zao | apply Kd.zar | apply Kd.zaB)); exact HO188.out) hb); have n1_ := zaa.mk (zai (by repeat (first | (with_reducible first | exact HB.out | apply zac | apply zab | apply zae) | exact HB.out)) hb); clear HO188; clear HB; have HO188 := n0_; have HB := n1_; clear n0_ n1_; (try clear hb); (try clear hb2); (try clear hk); (try clear hi)) | (go_at_call 17; (with_reducible refine (zaw.calls k _ _ l0 t198 t199 _ ?side1 ?side2 A23.out).mono ?_); (case side1 => repeat (first | exact (Kd.zan HR0.out HB.out) | (with_reducible refine Kd.zau ?_ _) | (with_reducible refine Kd.zav ?_ _) | (with_reducible refine Kd.zaC ?_))); (case side2 => exact HC0.out); rintro e w40 ⟨rfl, hb⟩; have n0_ := zaa.mk (Kd.zax (by (with_reducible repeat (first | apply Kd.zao | apply Kd.zar | apply Kd.zaB)); exact HO188.out) hb); have n1_ := zaa.mk (zai (by repeat (first | (with_reducible first | exact HB.out | apply zac | apply zab | apply zae) | exact HB.out)) hb); clear HO188; clear HB; have HO188 := n0_; have HB := n1_; clear n0_ n1_; (try clear hb); (try clear hb2); (try clear hk); (try clear hi)) | (go_at_call 8; (with_reducible refine (zaf.calls k _ _ l0 (rdOf ByteArray.empty t186 t189) (rdOf ByteArray.empty t186 t189) true _ ?side1 ?side2 A25.out).mono ?_); (case side1 => repeat (first | exact (Kd.zan HR0.out HB.out) | (with_reducible refine Kd.zau ?_ _) | (with_reducible refine Kd.zav ?_ _) | (with_reducible refine Kd.zaC ?_))); (case side2 => exact HC0.out); rintro e w41 ⟨rfl, hb⟩; have n0_ := zaa.mk (Kd.zax (by (with_reducible repeat (first | apply Kd.zao | apply Kd.zar | apply Kd.zaB)); exact HO188.out) hb); have n1_ := zaa.mk (zai (by repeat (first | (with_reducible first | exact HB.out | apply zac | apply zab | apply zae) | exact HB.out)) hb); clear HO188; clear HB; have HO188 := n0_; have HB := n1_; clear n0_ n1_; (try clear hb); (try clear hb2); (try clear hk); (try clear hi)) | (go_at_call 8; (with_reducible refine (zaf.calls k _ _ l0 (rdOf ByteArray.empty t186 t189) (rdOf ByteArray.empty t186 t193) true _ ?side1 ?side2 A31.out).mono ?_); (case side1 => repeat (first | exact (Kd.zan HR0.out HB.out) | (with_reducible refine Kd.zau ?_ _) | (with_reducible refine Kd.zav ?_ _) | (with_reducible refine Kd.zaC ?_))); (case side2 => exact HC0.out); rintro e w42 ⟨rfl, hb⟩; have n0_ := zaa.mk (Kd.zax (by (with_reducible repeat (first | apply Kd.zao | apply Kd.zar | apply Kd.zaB)); exact HO188.out) hb); have n1_ := zaa.mk (zai (by repeat (first | (with_reducible first | exact HB.out | apply zac | apply zab | apply zae) | exact HB.out)) hb); clear HO188; clear HB; have HO188 := n0_; have HB := n1_; clear n0_ n1_; (try clear hb); (try clear hb2); (try clear hk); (try clear hi))))
                go_ret
                exact ⟨by first | rfl | (simp [zaP, zaQ] <;> rfl) | (simp [*, zaP, zaQ] <;> rfl), by repeat (first | (with_reducible first | exact HB.out | apply zac | apply zab | apply zae) | exact HB.out)⟩
              ·
               replace c32 := Bool.eq_false_iff.mpr c32
               subst c32
               have H1 : (none) = some r := by rw [if_neg (show ¬ (false = true) by decide)] at H; exact H
               clear H
               have H := H1
               clear H1
               exact absurd H s9
             ·
              replace c30 := Bool.eq_false_iff.mpr c30
              subst c30
              have H1 : (some t184) = some r := by rw [if_neg (show ¬ (false = true) by decide)] at H; exact H
              clear H
              have H := H1
              clear H1
              as_aux_lemma =>
               obtain rfl := Option.some.inj H
               go_enter Tryd.func4, Tryd.ntmps4
               go_wp2_with (first | (go_at_call 3; (with_reducible refine (zad.calls k  t184 _ A5.out).mono ?_); rintro e w43 ⟨rfl, hb⟩; have n0_ := zaa.mk (zai (by repeat (first | (with_reducible first | exact HB.out | apply zac | apply zab | apply zae) | exact HB.out)) hb); clear HB; have HB := n0_; clear n0_; (try clear hb); (try clear hb2); (try clear hk); (try clear hi)) | (go_at_call 14; (with_reducible refine (zah.calls k _ _ l0 false _ ?side1 ?side2 A6.out).mono ?_); (case side1 => repeat (first | exact (Kd.zan HR0.out HB.out) | (with_reducible refine Kd.zau ?_ _) | (with_reducible refine Kd.zav ?_ _) | (with_reducible refine Kd.zaC ?_))); (case side2 => exact HC0.out); rintro e w44 ⟨rfl, hb⟩; have n0_ := zaa.mk (zai (by repeat (first | (with_reducible first | exact HB.out | apply zac | apply zab | apply zae) | exact HB.out)) hb); clear HB; have HB := n0_; clear n0_; (try clear hb); (try clear hb2); (try clear hk); (try clear hi)) | (go_at_call 15; (with_reducible refine (zat.calls k _ _ l0 t186 _ ?side1 ?side2 A10.out).mono ?_); (case side1 => repeat (first | exact (Kd.zan HR0.out HB.out) | (with_reducible refine Kd.zau ?_ _) | (with_reducible refine Kd.zav ?_ _) | (with_reducible refine Kd.zaC ?_))); (case side2 => exact HC0.out); rintro e w45 ⟨v187, rfl, ho0, hb⟩; have n0_ := zaa.mk (Kd.za3 ho0 (zaI (by repeat (first | (with_reducible first | exact HB.out | apply zac | apply zab | apply zae) | exact HB.out)))); have n1_ := zaa.mk (zai (by repeat (first | (with_reducible first | exact HB.out | apply zac | apply zab | apply zae) | exact HB.out)) hb); clear HB; have HO188 := n0_; have HB := n1_; clear n0_ n1_; (try clear hb); (try clear hb2); (try clear hk); (try clear hi); (try clear ho0); obtain ⟨Ao46, co46, eo46⟩ := Kd.zaW HO188.out; subst eo46) | (go_at_call 16; (with_reducible refine (zak.calls a1 (t186.length : Int) t189 _ A11.out).mono ?_); rintro e w' ⟨rfl, ⟨nd, rfl⟩⟩; (try first | exact ⟨rfl, _, World.drewN_drewN _ _ _⟩ | exact ⟨rfl, _, Eq.trans (World.drewN_drewN _ _ _) (congrArg (World.drewN _) (Nat.add_assoc _ _ _))⟩); have p190 : 0 ≤ (t189 : Int) := of_decide_eq_true (by first | (with_reducible assumption) | assumption); have q190 : t189 < (t186.length : Int) := of_decide_eq_true (by first | (with_reducible assumption) | assumption); obtain ⟨ad190, e190, hx190_0⟩ := Kd.zaN (Kd.zas HO188.out).2.2 t189 p190 q190; cases e190; replace p190 := eq_true p190; replace q190 := eq_true q190) | (go_at_call 16; (with_reducible refine (zak.calls a2 (t186.length : Int) t191 _ A14.out).mono ?_); rintro e w' ⟨rfl, ⟨nd, rfl⟩⟩; (try first | exact ⟨rfl, _, World.drewN_drewN _ _ _⟩ | exact ⟨rfl, _, Eq.trans (World.drewN_drewN _ _ _) (congrArg (World.drewN _) (Nat.add_assoc _ _ _))⟩); have p192 : 0 ≤ (t191 : Int) := of_decide_eq_true (by first | (with_reducible assumption) | assumption); have q192 : t191 < (t186.length : Int) := of_decide_eq_true (by first | (with_reducible assumption) | assumption); obtain ⟨ad192, e192, hx192_0⟩ := Kd.zaN (Kd.zas HO188.out).2.2 t191 p192 q192; obtain rfl : ad190 = ad192 := (by injection e192); replace p192 := eq_true p192; replace q192 := eq_true q192) | (go_at_call 16; (with_reducible refine (zak.calls a3 (t186.length : Int) t193 _ A17.out).mono ?_); rintro e w' ⟨rfl, ⟨nd, rfl⟩⟩; (try first | exact ⟨rfl, _, World.drewN_drewN _ _ _⟩ | exact ⟨rfl, _, Eq.trans (World.drewN_drewN _ _ _) (congrArg (World.drewN _) (Nat.add_assoc _ _ _))⟩); have p194 : 0 ≤ (t193 : Int) := of_decide_eq_true (by first | (with_reducible assumption) | assumption); have q194 : t193 < (t186.length : Int) := of_decide_eq_true (by first | (with_reducible assumption) | assumption); obtain ⟨ad194, e194, hx194_0⟩ := Kd.zaN (Kd.zas HO188.out).2.2 t193 p194 q194; obtain rfl : ad190 = ad194 := (by injection e194); replace p194 := eq_true p194; replace q194 := eq_true q194) | (go_at_call 8; (with_reducible refine (zaf.calls k _ _ l0 (rdOf ByteArray.empty t186 t189) (rdOf ByteArray.empty t186 t191) true _ ?side1 ?side2 A20.out).mono ?_); (case side1 => repeat (first | exact (Kd.zan HR0.out (by repeat (first | (with_reducible first | exact HB.out | apply zac | apply zab | apply zae) | exact HB.out))) | (with_reducible refine Kd.zau ?_ _) | (with_reducible refine Kd.zav ?_ _) | (with_reducible refine Kd.zaC ?_))); (case side2 => exact HC0.out); rintro e w47 ⟨rfl, hb⟩; have n0_ := zaa.mk (Kd.zax (by (with_reducible repeat (first | apply Kd.zao | apply Kd.zar | apply Kd.zaB)); exact HO188.out) hb); have n1_ := zaa.mk (zai (by repeat (first | (with_reducible first | exact HB.out | apply zac | apply zab | apply zae) | exact HB.out)) hb); clear HO188; clear HB; have HO188 := n0_; have HB := n1_; clear n0_ n1_; (try clear hb); (try clear hb2); (try clear hk); (try clear hi)) | (go_at_call 8; (with_reducible refine (zaf.calls k _ _ l0 (rdOf ByteArray.empty t186 t191) (rdOf ByteArray.empty t186 t189) true _ ?side1 ?side2 A21.out).mono ?_); (case side1 => repeat (first | exact (Kd.zan HR0.out HB.out) | (with_reducible refine Kd.zau ?_ _) | (with_reducible refine Kd.zav ?_ _) | (with_reducible refine Kd.zaC ?_))); (case side2 => exact HC0.out); rintro e w48 ⟨rfl, hb⟩; have n0_ := zaa.mk (Kd.zax (by (with_reducible repeat (first | apply Kd.zao | apply Kd.zar | apply Kd.zaB)); exact HO188.out) hb); have n1_ := zaa.mk (zai (by repeat (first | (with_reducible first | exact HB.out | apply zac | apply zab | apply zae) | exact HB.out)) hb); clear HO188; clear HB; have HO188 := n0_; have HB := n1_; clear n0_ n1_; (try clear hb); (try clear hb2); (try clear hk); (try clear hi)) | (go_at_call 8; (with_reducible refine (zaf.calls k _ _ l0 (rdOf ByteArray.empty t186 t191) (rdOf ByteArray.empty t186 t193) false _ ?side1 ?side2 A22.out).mono ?_); (case side1 => repeat (first | exact (Kd.zan HR0.out HB.out) | (with_reducible refine Kd.zau ?_ _) | (with_reducible refine Kd.zav ?_ _) | (with_reducible refine Kd.zaC ?_))); (case side2 => exact HC0.out); rintro e w49 ⟨rfl, hb⟩; have n0_ := zaa.mk (Kd.zax (by (with_reducible repeat (first | apply Kd.zao | apply Kd.zar | apply Kd.zaB)); exact HO188.out) hb); have n1_ := zaa.mk (zai (by repeat (first | (with_reducible first | exact HB.out | apply zac | apply zab | apply zae) | exact HB.out)) hb); clear HO188; clear HB; have HO188 := n0_; have HB := n1_; clear n0_ n1_; (try clear hb); (try clear hb2); (try clear hk); (try clear hi)) | (go_at_call 17; (with_reducible refine (zaw.calls k _ _ l0 t198 t199 _ ?side1 ?side2 A23.out).mono ?_); (case side1 => repeat (first | exact (Kd.zan HR0.out HB.out) | (with_reducible refine Kd.zau ?_ _) | (with_reducible refine Kd.zav ?_ _) | (with_reducible refine Kd.zaC ?_))); (case side2 => exact HC0.out); rintro e w50 ⟨rfl, hb⟩; have n0_ := zaa.mk (Kd.zax (by (with_reducible repeat (first | apply Kd.zao | apply Kd.zar | apply Kd.zaB)); exact HO188.out) hb); have n1_ := zaa.mk (zai (by repeat (first | (with_reducible first | exact HB.out | apply zac | apply zab | apply zae) | exact HB.out)) hb); clear HO188; clear HB; have HO188 := n0_; have HB := n1_; clear n0_ n1_; (try clear hb); (try clear hb2); (try clear hk); (try clear hi)) | (go_at_call 8; (with_reducible refine (zaf.calls k _ _ l0 (rdOf ByteArray.empty t186 t189) (rdOf ByteArray.empty t186 t189) true _ ?side1 ?side2 A25.out).mono ?_); (case side1 => repeat (first | exact (Kd.zan HR0.out HB.out) | (with_reducible refine Kd.zau ?_ _) | (with_reducible refine Kd.zav ?_ _) | (with_reducible refine Kd.zaC ?_))); (case side2 => exact HC0.out); rintro e w51 ⟨rfl, hb⟩; have n0_ := zaa.mk (Kd.zax (by (with_reducible repeat (first | apply Kd.zao | apply Kd.zar | apply Kd.zaB)); exact HO188.out) hb); have n1_ := zaa.mk (zai (by repeat (first | (with_reducible first | exact HB.out | apply zac | apply zab | apply zae) | exact HB.out)) hb); clear HO188; clear HB; have HO188 := n0_; have HB := n1_; clear n0_ n1_; (try clear hb); (try clear hb2); (try clear hk); (try clear hi)))
               repeat (go_quiet (first | (go_at_call 3; (with_reducible refine (zad.calls k  t184 _ A5.out).mono ?_); rintro e w43 ⟨rfl, hb⟩; have n0_ := zaa.mk (zai (by repeat (first | (with_reducible first | exact HB.out | apply zac | apply zab | apply zae) | exact HB.out)) hb); clear HB; have HB := n0_; clear n0_; (try clear hb); (try clear hb2); (try clear hk); (try clear hi)) | (go_at_call 14; (with_reducible refine (zah.calls k _ _ l0 false _ ?side1 ?side2 A6.out).mono ?_); (case side1 => repeat (first | exact (Kd.zan HR0.out HB.out) | (with_reducible refine Kd.zau ?_ _) | (with_reducible refine Kd.zav ?_ _) | (with_reducible refine Kd.zaC ?_))); (case side2 => exact HC0.out); rintro e w44 ⟨rfl, hb⟩; have n0_ := zaa.mk (zai (by repeat (first | (with_reducible first | exact HB.out | apply zac | apply zab | apply zae) | exact HB.out)) hb); clear HB; have HB := n0_; clear n0_; (try clear hb); (try clear hb2); (try clear hk); (try clear hi)) | (go_at_call 15; (with_reducible refine (zat.calls k _ _ l0 t186 _ ?side1 ?side2 A10.out).mono ?_); (case side1 => repeat (first | exact (Kd.zan HR0.out HB.out) | (with_reducible refine Kd.zau ?_ _) | (with_reducible refine Kd.zav ?_ _) | (with_reducible refine Kd.zaC ?_))); (case side2 => exact HC0.out); rintro e w45 ⟨v187, rfl, ho0, hb⟩; have n0_ := zaa.mk (Kd.za3 ho0 (zaI (by repeat (first | (with_reducible first | exact HB.out | apply zac | apply zab | apply zae) | exact HB.out)))); have n1_ := zaa.mk (zai (by repeat (first | (with_reducible first | exact HB.out | apply zac | apply zab | apply zae) | exact HB.out)) hb); clear HB; have HO188 := n0_; have HB := n1_; clear n0_ n1_; (try clear hb); (try clear hb2); (try clear hk); (try clear hi); (try clear ho0); obtain ⟨Ao46, co46, eo46⟩ := Kd.zaW HO188.out; subst eo46) | (go_at_call 16; (with_reducible refine (zak.calls a1 (t186.length : Int) t189 _ A11.out).mono ?_); rintro e w' ⟨rfl, ⟨nd, rfl⟩⟩; (try first | exact ⟨rfl, _, World.drewN_drewN _ _ _⟩ | exact ⟨rfl, _, Eq.trans (World.drewN_drewN _ _ _) (congrArg (World.drewN _) (Nat.add_assoc _ _ _))⟩); have p190 : 0 ≤ (t189 : Int) := of_decide_eq_true (by first | (with_reducible assumption) | assumption); have q190 : t189 < (t186.length : Int) := of_decide_eq_true (by first | (with_reducible assumption) | assumption); obtain ⟨ad190, e190, hx190_0⟩ := Kd.zaN (Kd.zas HO188.out).2.2 t189 p190 q190; cases e190; replace p190 := eq_true p190; replace q190 := eq_true q190) | (go_at_call 16; (with_reducible refine (zak.calls a2 (t186.length : Int) t191 _ A14.out).mono ?_); rintro e w' ⟨rfl, ⟨nd, rfl⟩⟩; (try first | exact ⟨rfl, _, World.drewN_drewN _ _ _⟩ | exact ⟨rfl, _, Eq.trans (World.drewN_drewN _ _ _) (congrArg (World.drewN _) (Nat.add_assoc _ _ _))⟩); have p192 : 0 ≤ (t191 : Int) := of_decide_eq_true (by first | (with_reducible assumption) | assumption); have q192 : t191 < (t186.length : Int) := of_decide_eq_true (by first | (with_reducible assumption) | assumption); obtain ⟨ad192, e192, hx192_0⟩ := Kd.zaN (Kd.zas HO188.out).2.2 t191 p192 q192; obtain rfl : ad190 = ad192 := (by injection e192); replace p192 := eq_true p192; replace q192 := eq_true q192) | (go_at_call 16; (with_reducible refine (zak.calls a3 (t186.length : Int) t193 _ A17.out).mono ?_); rintro e w' ⟨rfl, ⟨nd, rfl⟩⟩; (try first | exact ⟨rfl, _, World.drewN_drewN _ _ _⟩ | exact ⟨rfl, _, Eq.trans (World.drewN_drewN _ _ _) (congrArg (World.drewN _) (Nat.add_assoc _ _ _))⟩); have p194 : 0 ≤ (t193 : Int) := of_decide_eq_true (by first | (with_reducible assumption) | assumption); have q194 : t193 < (t186.length : Int) := of_decide_eq_true (by first | (with_reducible assumption) | assumption); obtain ⟨ad194, e194, hx194_0⟩ := Kd.zaN (Kd.zas HO188.out).2.2 t193 p194 q194; obtain rfl : ad190 = ad194 := (by injection e194); replace p194 := eq_true p194; replace q194 := eq_true q194) | (go_at_call 8; (with_reducible refine (zaf.calls k _ _ l0 (rdOf ByteArray.empty t186 t189) (rdOf ByteArray.empty t186 t191) true _ ?side1 ?side2 A20.out).mono ?_); (case side1 => repeat (first | exact (Kd.zan HR0.out (by repeat (first | (with_reducible first | exact HB.out | apply zac | apply zab | apply zae) | exact HB.out))) | (with_reducible refine Kd.zau ?_ _) | (with_reducible refine Kd.zav ?_ _) | (with_reducible refine Kd.zaC ?_))); (case side2 => exact HC0.out); rintro e w47 ⟨rfl, hb⟩; have n0_ := zaa.mk (Kd.zax (by (with_reducible repeat (first | apply Kd.zao | apply Kd.zar | apply Kd.zaB)); exact HO188.out) hb); have n1_ := zaa.mk (zai (by repeat (first | (with_reducible first | exact HB.out | apply zac | apply zab | apply zae) | exact HB.out)) hb); clear HO188; clear HB; have HO188 := n0_; have HB := n1_; clear n0_ n1_; (try clear hb); (try clear hb2); (try clear hk); (try clear hi)) | (go_at_call 8; (with_reducible refine (zaf.calls k _ _ l0 (rdOf ByteArray.empty t186 t191) (rdOf ByteArray.empty t186 t189) true _ ?side1 ?side2 A21.out).mono ?_); (case side1 => repeat (first | exact (Kd.zan HR0.out HB.out) | (with_reducible refine Kd.zau ?_ _) | (with_reducible refine Kd.zav ?_ _) | (with_reducible refine Kd.zaC ?_))); (case side2 => exact HC0.out); rintro e w48 ⟨rfl, hb⟩; have n0_ := zaa.mk (Kd.zax (by (with_reducible repeat (first | apply Kd.zao | apply Kd.zar | apply Kd.zaB)); exact HO188.out) hb); have n1_ := zaa.mk (zai (by repeat (first | (with_reducible first | exact HB.out | apply zac | apply zab | apply zae) | exact HB.out)) hb); clear HO188; clear HB; have HO188 := n0_; have HB := n1_; clear n0_ n1_; (try clear hb); (try clear hb2); (try clear hk); (try clear hi)) | (go_at_call 8; (with_reducible refine (zaf.calls k _ _ l0 (rdOf ByteArray.empty t186 t191) (rdOf ByteArray.empty t186 t193) false _ ?side1 ?side2 A22.out).mono ?_); (case side1 => repeat (first | exact (Kd.zan HR0.out HB.out) | (with_reducible refine Kd.zau ?_ _) | (with_reducible refine Kd.zav ?_ _) | (with_reducible refine Kd.zaC ?_))); (case side2 => exact HC0.out); rintro e w49 ⟨rfl, hb⟩; have n0_ := zaa.mk (Kd.zax (by (with_reducible repeat (first | apply Kd.zao | apply Kd.zar | apply Kd.zaB)); exact HO188.out) hb); have n1_ := zaa.mk (zai (by repeat (first | (with_reducible first | exact HB.out | apply zac | apply zab | apply zae) | exact HB.out)) hb); clear HO188; clear HB; have HO188 := n0_; have HB := n1_; clear n0_ n1_; (try clear hb); (try clear hb2); (try clear hk); (try clear hi)) | (go_at_call 17; (with_reducible refine (zaw.calls k _ _ l0 t198 t199 _ ?side1 ?side2 A23.out).mono ?_); (case side1 => repeat (first | exact (Kd.zan HR0.out HB.out) | (with_reducible refine Kd.zau ?_ _) | (with_reducible refine Kd.zav ?_ _) | (with_reducible refine Kd.zaC ?_))); (case side2 => exact HC0.out); rintro e w50 ⟨rfl, hb⟩; have n0_ := zaa.mk (Kd.zax (by (with_reducible repeat (first | apply Kd.zao | apply Kd.zar | apply Kd.zaB)); exact HO188.out) hb); have n1_ := zaa.mk (zai (by repeat (first | (with_reducible first | exact HB.out | apply zac | apply zab | apply zae) | exact HB.out)) hb); clear HO188; clear HB; have HO188 := n0_; have HB := n1_; clear n0_ n1_; (try clear hb); (try clear hb2); (try clear hk); (try clear hi)) | (go_at_call 8; (with_reducible refine (zaf.calls k _ _ l0 (rdOf ByteArray.empty t186 t189) (rdOf ByteArray.empty t186 t189) true _ ?side1 ?side2 A25.out).mono ?_); (case side1 => repeat (first | exact (Kd.zan HR0.out HB.out) | (with_reducible refine Kd.zau ?_ _) | (with_reducible refine Kd.zav ?_ _) | (with_reducible refine Kd.zaC ?_))); (case side2 => exact HC0.out); rintro e w51 ⟨rfl, hb⟩; have n0_ := zaa.mk (Kd.zax (by (with_reducible repeat (first | apply Kd.zao | apply Kd.zar | apply Kd.zaB)); exact HO188.out) hb); have n1_ := zaa.mk (zai (by repeat (first | (with_reducible first | exact HB.out | apply zac | apply zab | apply zae) | exact HB.out)) hb); clear HO188; clear HB; have HO188 := n0_; have HB := n1_; clear n0_ n1_; (try clear hb); (try clear hb2); (try clear hk); (try clear hi))); try go_wp2_with (first | (go_at_call 3; (with_reducible refine (zad.calls k  t184 _ A5.out).mono ?_); rintro e w43 ⟨rfl, hb⟩; have n0_ := zaa.mk (zai (by repeat (first | (with_reducible first | exact HB.out | apply zac | apply zab | apply zae) | exact HB.out)) hb); clear HB; have HB := n0_; clear n0_; (try clear hb); (try clear hb2); (try clear hk); (try clear hi)) | (go_at_call 14; (with_reducible refine (zah.calls k _ _ l0 false _ ?side1 ?side2 A6.out).mono ?_); (case side1 => repeat (first | exact (Kd.zan HR0.out HB.out) | (with_reducible refine Kd.zau ?_ _) | (with_reducible refine Kd.zav ?_ _) | (with_reducible refine Kd.zaC ?_))); (case side2 => exact HC0.out); rintro e w44 ⟨rfl, hb⟩; have n0_ := zaa.mk (zai (by repeat (first | (with_reducible first | exact HB.out | apply zac | apply zab | apply zae) | exact HB.out)) hb); clear HB; have HB := n0_; clear n0_; (try clear hb); (try clear hb2); (try clear hk); (try clear hi)) | (go_at_call 15; (with_reducible refine (zat.calls k _ _ l0 t186 _ ?side1 ?side2 A10.out).mono ?_); (case side1 => repeat (first | exact (Kd.zan HR0.out HB.out) | (with_reducible refine Kd.zau ?_ _) | (with_reducible refine Kd.zav ?_ _) | (with_reducible refine Kd.zaC ?_))); (case side2 => exact HC0.out); rintro e w45 ⟨v187, rfl, ho0, hb⟩; have n0_ := zaa.mk (Kd.za3 ho0 (zaI (by repeat (first | (with_reducible first | exact HB.out | apply zac | apply zab | apply zae) | exact HB.out)))); have n1_ := zaa.mk (zai (by repeat (first | (with_reducible first | exact HB.out | apply zac | apply zab | apply zae) | exact HB.out)) hb); clear HB; have HO188 := n0_; have HB := n1_; clear n0_ n1_; (try clear hb); (try clear hb2); (try clear hk); (try clear hi); (try clear ho0); obtain ⟨Ao46, co46, eo46⟩ := Kd.zaW HO188.out; subst eo46) | (go_at_call 16; (with_reducible refine (zak.calls a1 (t186.length : Int) t189 _ A11.out).mono ?_); rintro e w' ⟨rfl, ⟨nd, rfl⟩⟩; (try first | exact ⟨rfl, _, World.drewN_drewN _ _ _⟩ | exact ⟨rfl, _, Eq.trans (World.drewN_drewN _ _ _) (congrArg (World.drewN _) (Nat.add_assoc _ _ _))⟩); have p190 : 0 ≤ (t189 : Int) := of_decide_eq_true (by first | (with_reducible assumption) | assumption); have q190 : t189 < (t186.length : Int) := of_decide_eq_true (by first | (with_reducible assumption) | assumption); obtain ⟨ad190, e190, hx190_0⟩ := Kd.zaN (Kd.zas HO188.out).2.2 t189 p190 q190; cases e190; replace p190 := eq_true p190; replace q190 := eq_true q190) | (go_at_call 16; (with_reducible refine (zak.calls a2 (t186.length : Int) t191 _ A14.out).mono ?_); rintro e w' ⟨rfl, ⟨nd, rfl⟩⟩; (try first | exact ⟨rfl, _, World.drewN_drewN _ _ _⟩ | exact ⟨rfl, _, Eq.trans (World.drewN_drewN _ _ _) (congrArg (World.drewN _) (Nat.add_assoc _ _ _))⟩); have p192 : 0 ≤ (t191 : Int) := of_decide_eq_true (by first | (with_reducible assumption) | assumption); have q192 : t191 < (t186.length : Int) := of_decide_eq_true (by first | (with_reducible assumption) | assumption); obtain ⟨ad192, e192, hx192_0⟩ := Kd.zaN (Kd.zas HO188.out).2.2 t191 p192 q192; obtain rfl : ad190 = ad192 := (by injection e192); replace p192 := eq_true p192; replace q192 := eq_true q192) | (go_at_call 16; (with_reducible refine (zak.calls a3 (t186.length : Int) t193 _ A17.out).mono ?_); rintro e w' ⟨rfl, ⟨nd, rfl⟩⟩; (try first | exact ⟨rfl, _, World.drewN_drewN _ _ _⟩ | exact ⟨rfl, _, Eq.trans (World.drewN_drewN _ _ _) (congrArg (World.drewN _) (Nat.add_assoc _ _ _))⟩); have p194 : 0 ≤ (t193 : Int) := of_decide_eq_true (by first | (with_reducible assumption) | assumption); have q194 : t193 < (t186.length : Int) := of_decide_eq_true (by first | (with_reducible assumption) | assumption); obtain ⟨ad194, e194, hx194_0⟩ := Kd.zaN (Kd.zas HO188.out).2.2 t193 p194 q194; obtain rfl : ad190 = ad194 := (by injection e194); replace p194 := eq_true p194; replace q194 := eq_true q194) | (go_at_call 8; (with_reducible refine (zaf.calls k _ _ l0 (rdOf ByteArray.empty t186 t189) (rdOf ByteArray.empty t186 t191) true _ ?side1 ?side2 A20.out).mono ?_); (case side1 => repeat (first | exact (Kd.zan HR0.out (by repeat (first | (with_reducible first | exact HB.out | apply zac | apply zab | apply zae) | exact HB.out))) | (with_reducible refine Kd.zau ?_ _) | (with_reducible refine Kd.zav ?_ _) | (with_reducible refine Kd.zaC ?_))); (case side2 => exact HC0.out); rintro e w47 ⟨rfl, hb⟩; have n0_ := zaa.mk (Kd.zax (by (with_reducible repeat (first | apply Kd.zao | apply Kd.zar | apply Kd.zaB)); exact HO188.out) hb); have n1_ := zaa.mk (zai (by repeat (first | (with_reducible first | exact HB.out | apply zac | apply zab | apply zae) | exact HB.out)) hb); clear HO188; clear HB; have HO188 := n0_; have HB := n1_; clear n0_ n1_; (try clear hb); (try clear hb2); (try clear hk); (try clear hi)) | (go_at_call 8; (with_reducible refine (zaf.calls k _ _ l0 (rdOf ByteArray.empty t186 t191) (rdOf ByteArray.empty t186 t189) true _ ?side1 ?side2 A21.out).mono ?_); (case side1 => repeat (first | exact (Kd.zan HR0.out HB.out) | (with_reducible refine Kd.zau ?_ _) | (with_reducible refine Kd.zav ?_ _) | (with_reducible refine Kd.zaC ?_))); (case side2 => exact HC0.out); rintro e w48 ⟨rfl, hb⟩; have n0_ := zaa.mk (Kd.zax (by (with_reducible repeat (first | apply Kd.zao | apply Kd.zar | apply Kd.zaB)); exact HO188.out) hb); have n1_ := zaa.mk (zai (by repeat (first | (with_reducible first | exact HB.out | apply zac | apply zab | apply zae) | exact HB.out)) hb); clear HO188; clear HB; have HO188 := n0_; have HB := n1_; clear n0_ n1_; (try clear hb); (try clear hb2); (try clear hk); (try clear hi)) | (go_at_call 8; (with_reducible refine (zaf.calls k _ _ l0 (rdOf ByteArray.empty t186 t191) (rdOf ByteArray.empty t186 t193) false _ ?side1 ?side2 A22.out).mono ?_); (case side1 => repeat (first | exact (Kd.zan HR0.out HB.out) | (with_reducible refine Kd.zau ?_ _) | (with_reducible refine Kd.zav ?_ _) | (with_reducible refine Kd.zaC ?_))); (case side2 => exact HC0.out); rintro e w49 ⟨rfl, hb⟩; have n0_ := zaa.mk (Kd.zax (by (with_reducible repeat (first | apply Kd.zao | apply Kd.zar | apply Kd.zaB)); exact HO188.out) hb); have n1_ := zaa.mk (zai (by repeat (first | (with_reducible first | exact HB.out | apply zac | apply zab | apply zae) | exact HB.out)) hb); clear HO188; clear HB; have HO188 := n0_; have HB := n1_; clear n0_ n1_; (try clear hb); (try clear hb2); (try clear hk); (try clear hi)) | (go_at_call 17; (with_reducible refine (zaw.calls k _ _ l0 t198 t199 _ ?side1 ?side2 A23.out).mono ?_); (case side1 => repeat (first | exact (Kd.zan HR0.out HB.out) | (with_reducible refine Kd.zau ?_ _) | (with_reducible refine Kd.zav ?_ _) | (with_reducible refine Kd.zaC ?_))); (case side2 => exact HC0.out); rintro e w50 ⟨rfl, hb⟩; have n0_ := zaa.mk (Kd.zax (by (with_reducible repeat (first | apply Kd.zao | apply Kd.zar | apply Kd.zaB)); exact HO188.out) hb); have n1_ := zaa.mk (zai (by repeat (first | (with_reducible first | exact HB.out | apply zac | apply zab | apply zae) | exact HB.out)) hb); clear HO188; clear HB; have HO188 := n0_; have HB := n1_; clear n0_ n1_; (try clear hb); (try clear hb2); (try clear hk); (try clear hi)) | (go_at_call 8; (with_reducible refine (zaf.calls k _ _ l0 (rdOf ByteArray.empty t186 t189) (rdOf ByteArray.empty t186 t189) true _ ?side1 ?side2 A25.out).mono ?_); (case side1 => repeat (first | exact (Kd.zan HR0.out HB.out) | (with_reducible refine Kd.zau ?_ _) | (with_reducible refine Kd.zav ?_ _) | (with_reducible refine Kd.zaC ?_))); (case side2 => exact HC0.out); rintro e w51 ⟨rfl, hb⟩; have n0_ := zaa.mk (Kd.zax (by (with_reducible repeat (first | apply Kd.zao | apply Kd.zar | apply Kd.zaB)); exact HO188.out) hb); have n1_ := zaa.mk (zai (by repeat (first | (with_reducible first | exact HB.out | apply zac | apply zab | apply zae) | exact HB.out)) hb); clear HO188; clear HB; have HO188 := n0_; have HB := n1_; clear n0_ n1_; (try clear hb); (try clear hb2); (try clear hk); (try clear hi))))
               go_ret
               exact ⟨by first | rfl | (simp [zaP, zaQ] <;> rfl) | (simp [*, zaP, zaQ] <;> rfl), by repeat (first | (with_reducible first | exact HB.out | apply zac | apply zab | apply zae) | exact HB.out)⟩
            ·
             rw [if_neg c29] at H
             exact absurd H s9
           ·
            replace c28 := Bool.eq_false_iff.mpr c28
            subst c28
            have H1 : (if t197 = true then ((zaf.f k l0 (rdOf ByteArray.empty t186 t189) (rdOf ByteArray.empty t186 t193)).bind fun t203 => (if t203 = true then (some t184) else (none))) else (some t184)) = some r := by rw [if_neg (show ¬ (false = true) by decide)] at H; exact H
            clear H
            have H := H1
            clear H1
            by_cases c52 : t197 = true
            ·
             subst c52
             have H1 : ((zaf.f k l0 (rdOf ByteArray.empty t186 t189) (rdOf ByteArray.empty t186 t193)).bind fun t203 => (if t203 = true then (some t184) else (none))) = some r := by rw [if_pos rfl] at H; exact H
             clear H
             have H := H1
             clear H1
             replace H := Option.bind_eq_some_iff.mp H
             obtain ⟨t203, A530, H⟩ := H
             replace H : (if t203 = true then (some t184) else (none)) = some r := H
             have A53 := zaa.mk A530
             clear A530
             by_cases c54 : t203 = true
             ·
              subst c54
              have H1 : (some t184) = some r := by rw [if_pos rfl] at H; exact H
              clear H
              have H := H1
              clear H1
              as_aux_lemma =>
               obtain rfl := Option.some.inj H
               go_enter Tryd.func4, Tryd.ntmps4
               go_wp2_with (first | (go_at_call 3; (with_reducible refine (zad.calls k  t184 _ A5.out).mono ?_); rintro e w55 ⟨rfl, hb⟩; have n0_ := zaa.mk (zai (by repeat (first | (with_reducible first | exact HB.out | apply zac | apply zab | apply zae) | exact HB.out)) hb); clear HB; have HB := n0_; clear n0_; (try clear hb); (try clear hb2); (try clear hk); (try clear hi)) | (go_at_call 14; (with_reducible refine (zah.calls k _ _ l0 false _ ?side1 ?side2 A6.out).mono ?_); (case side1 => repeat (first | exact (Kd.zan HR0.out HB.out) | (with_reducible refine Kd.zau ?_ _) | (with_reducible refine Kd.zav ?_ _) | (with_reducible refine Kd.zaC ?_))); (case side2 => exact HC0.out); rintro e w56 ⟨rfl, hb⟩; have n0_ := zaa.mk (zai (by repeat (first | (with_reducible first | exact HB.out | apply zac | apply zab | apply zae) | exact HB.out)) hb); clear HB; have HB := n0_; clear n0_; (try clear hb); (try clear hb2); (try clear hk); (try clear hi)) | (go_at_call 15; (with_reducible refine (zat.calls k _ _ l0 t186 _ ?side1 ?side2 A10.out).mono ?_); (case side1 => repeat (first | exact (Kd.zan HR0.out HB.out) | (with_reducible refine Kd.zau ?_ _) | (with_reducible refine Kd.zav ?_ _) | (with_reducible refine Kd.zaC ?_))); (case side2 => exact HC0.out); rintro e w57 ⟨v187, rfl, ho0, hb⟩; have n0_ := zaa.mk (Kd.za3 ho0 (zaI (by repeat (first | (with_reducible first | exact HB.out | apply zac | apply zab | apply zae) | exact HB.out)))); have n1_ := zaa.mk (zai (by repeat (first | (with_reducible first | exact HB.out | apply zac | apply zab | apply zae) | exact HB.out)) hb); clear HB; have HO188 := n0_; have HB := n1_; clear n0_ n1_; (try clear hb); (try clear hb2); (try clear hk); (try clear hi); (try clear ho0); obtain ⟨Ao58, co58, eo58⟩ := Kd.zaW HO188.out; subst eo58) | (go_at_call 16; (with_reducible refine (zak.calls a1 (t186.length : Int) t189 _ A11.out).mono ?_); rintro e w' ⟨rfl, ⟨nd, rfl⟩⟩; (try first | exact ⟨rfl, _, World.drewN_drewN _ _ _⟩ | exact ⟨rfl, _, Eq.trans (World.drewN_drewN _ _ _) (congrArg (World.drewN _) (Nat.add_assoc _ _ _))⟩); have p190 : 0 ≤ (t189 : Int) := of_decide_eq_true (by first | (with_reducible assumption) | assumption); have q190 : t189 < (t186.length : Int) := of_decide_eq_true (by first | (with_reducible assumption) | assumption); obtain ⟨ad190, e190, hx190_0⟩ := Kd.zaN (Kd.zas HO188.out).2.2 t189 p190 q190; cases e190; replace p190 := eq_true p190; replace q190 := eq_true q190) | (go_at_call 16; (with_reducible refine (zak.calls a2 (t186.length : Int) t191 _ A14.out).mono ?_); rintro e w' ⟨rfl, ⟨nd, rfl⟩⟩; (try first | exact ⟨rfl, _, World.drewN_drewN _ _ _⟩ | exact ⟨rfl, _, Eq.trans (World.drewN_drewN _ _ _) (congrArg (World.drewN _) (Nat.add_assoc _ _ _))⟩); have p192 : 0 ≤ (t191 : Int) := of_decide_eq_true (by first | (with_reducible assumption) | assumption); have q192 : t191 < (t186.length : Int) := of_decide_eq_true (by first | (with_reducible assumption) | assumption); obtain ⟨ad192, e192, hx192_0⟩ := Kd.zaN (Kd.zas HO188.out).2.2 t191 p192 q192; obtain rfl : ad190 = ad192 := (by injection e192); replace p192 := eq_true p192; replace q192 := eq_true q192) | (go_at_call 16; (with_reducible refine (zak.calls a3 (t186.length : Int) t193 _ A17.out).mono ?_); rintro e w' ⟨rfl, ⟨nd, rfl⟩⟩; (try first | exact ⟨rfl, _, World.drewN_drewN _ _ _⟩ | exact ⟨rfl, _, Eq.trans (World.drewN_drewN _ _ _) (congrArg (World.drewN _) (Nat.add_assoc _ _ _))⟩); have p194 : 0 ≤ (t193 : Int) := of_decide_eq_true (by first | (with_reducible assumption) | assumption); have q194 : t193 < (t186.length : Int) := of_decide_eq_true (by first | (with_reducible assumption) | assumption); obtain ⟨ad194, e194, hx194_0⟩ := Kd.zaN (Kd.zas HO188.out).2.2 t193 p194 q194; obtain rfl : ad190 = ad194 := (by injection e194); replace p194 := eq_true p194; replace q194 := eq_true q194) | (go_at_call 8; (with_reducible refine (zaf.calls k _ _ l0 (rdOf ByteArray.empty t186 t189) (rdOf ByteArray.empty t186 t191) true _ ?side1 ?side2 A20.out).mono ?_); (case side1 => repeat (first | exact (Kd.zan HR0.out (by repeat (first | (with_reducible first | exact HB.out | apply zac | apply zab | apply zae) | exact HB.out))) | (with_reducible refine Kd.zau ?_ _) | (with_reducible refine Kd.zav ?_ _) | (with_reducible refine Kd.zaC ?_))); (case side2 => exact HC0.out); rintro e w59 ⟨rfl, hb⟩; have n0_ := zaa.mk (Kd.zax (by (with_reducible repeat (first | apply Kd.zao | apply Kd.zar | apply Kd.zaB)); exact HO188.out) hb); have n1_ := zaa.mk (zai (by repeat (first | (with_reducible first | exact HB.out | apply zac | apply zab | apply zae) | exact HB.out)) hb); clear HO188; clear HB; have HO188 := n0_; have HB := n1_; clear n0_ n1_; (try clear hb); (try clear hb2); (try clear hk); (try clear hi)) | (go_at_call 8; (with_reducible refine (zaf.calls k _ _ l0 (rdOf ByteArray.empty t186 t191) (rdOf ByteArray.empty t186 t189) false _ ?side1 ?side2 A21.out).mono ?_); (case side1 => repeat (first | exact (Kd.zan HR0.out HB.out) | (with_reducible refine Kd.zau ?_ _) | (with_reducible refine Kd.zav ?_ _) | (with_reducible refine Kd.zaC ?_))); (case side2 => exact HC0.out); rintro e w60 ⟨rfl, hb⟩; have n0_ := zaa.mk (Kd.zax (by (with_reducible repeat (first | apply Kd.zao | apply Kd.zar | apply Kd.zaB)); exact HO188.out) hb); have n1_ := zaa.mk (zai (by repeat (first | (with_reducible first | exact HB.out | apply zac | apply zab | apply zae) | exact HB.out)) hb); clear HO188; clear HB; have HO188 := n0_; have HB := n1_; clear n0_ n1_; (try clear hb); (try clear hb2); (try clear hk); (try clear hi)) | (go_at_call 8; (with_reducible refine (zaf.calls k _ _ l0 (rdOf ByteArray.empty t186 t191) (rdOf ByteArray.empty t186 t193) true _ ?side1 ?side2 A22.out).mono ?_); (case side1 => repeat (first | exact (Kd.zan HR0.out HB.out) | (with_reducible refine Kd.zau ?_ _) | (with_reducible refine Kd.zav ?_ _) | (with_reducible refine Kd.zaC ?_))); (case side2 => exact HC0.out); rintro e w61 ⟨rfl, hb⟩; have n0_ := zaa.mk (Kd.zax (by (with_reducible repeat (first | apply Kd.zao | apply Kd.zar | apply Kd.zaB)); exact HO188.out) hb); have n1_ := zaa.mk (zai (by repeat (first | (with_reducible first | exact HB.out | apply zac | apply zab | apply zae) | exact HB.out)) hb); clear HO188; clear HB; have HO188 := n0_; have HB := n1_; clear n0_ n1_; (try clear hb); (try clear hb2); (try clear hk); (try clear hi)) | (go_at_call 17; (with_reducible refine (zaw.calls k _ _ l0 t198 t199 _ ?side1 ?side2 A23.out).mono ?_); (case side1 => repeat (first | exact (Kd.zan HR0.out HB.out) | (with_reducible refine Kd.zau ?_ _) | (with_reducible refine Kd.zav ?_ _) | (with_reducible refine Kd.zaC ?_))); (case side2 => exact HC0.out); rintro e w62 ⟨rfl, hb⟩; have n0_ := zaa.mk (Kd.zax (by (with_reducible repeat (first | apply Kd.zao | apply Kd.zar | apply Kd.zaB)); exact HO188.out) hb); have n1_ := zaa.mk (zai (by repeat (first | (with_reducible first | exact HB.out | apply zac | apply zab | apply zae) | exact HB.out)) hb); clear HO188; clear HB; have HO188 := n0_; have HB := n1_; clear n0_ n1_; (try clear hb); (try clear hb2); (try clear hk); (try clear hi)) | (go_at_call 8; (with_reducible refine (zaf.calls k _ _ l0 (rdOf ByteArray.empty t186 t189) (rdOf ByteArray.empty t186 t189) true _ ?side1 ?side2 A25.out).mono ?_); (case side1 => repeat (first | exact (Kd.zan HR0.out HB.out) | (with_reducible refine Kd.zau ?_ _) | (with_reducible refine Kd.zav ?_ _) | (with_reducible refine Kd.zaC ?_))); (case side2 => exact HC0.out); rintro e w63 ⟨rfl, hb⟩; have n0_ := zaa.mk (Kd.zax (by (with_reducible repeat (first | apply Kd.zao | apply Kd.zar | apply Kd.zaB)); exact HO188.out) hb); have n1_ := zaa.mk (zai (by repeat (first | (with_reducible first | exact HB.out | apply zac | apply zab | apply zae) | exact HB.out)) hb); clear HO188; clear HB; have HO188 := n0_; have HB := n1_; clear n0_ n1_; (try clear hb); (try clear hb2); (try clear hk); (try clear hi)) | (go_at_call 8; (with_reducible refine (zaf.calls k _ _ l0 (rdOf ByteArray.empty t186 t189) (rdOf ByteArray.empty t186 t193) true _ ?side1 ?side2 A53.out).mono ?_); (case side1 => repeat (first | exact (Kd.zan HR0.out HB.out) | (with_reducible refine Kd.zau ?_ _) | (with_reducible refine Kd.zav ?_ _) | (with_reducible refine Kd.zaC ?_))); (case side2 => exact HC0.out); rintro e w64 ⟨rfl, hb⟩; have n0_ := zaa.mk (Kd.zax (by (with_reducible repeat (first | apply Kd.zao | apply Kd.zar | apply Kd.zaB)); exact HO188.out) hb); have n1_ := zaa.mk (zai (by repeat (first | (with_reducible first | exact HB.out | apply zac | apply zab | apply zae) | exact HB.out)) hb); clear HO188; clear HB; have HO188 := n0_; have HB := n1_; clear n0_ n1_; (try clear hb); (try clear hb2); (try clear hk); (try clear hi)))
               repeat (go_quiet (first | (go_at_call 3; (with_reducible refine (zad.calls k  t184 _ A5.out).mono ?_); rintro e w55 ⟨rfl, hb⟩; have n0_ := zaa.mk (zai (by repeat (first | (with_reducible first | exact HB.out | apply zac | apply zab | apply zae) | exact HB.out)) hb); clear HB; have HB := n0_; clear n0_; (try clear hb); (try clear hb2); (try clear hk); (try clear hi)) | (go_at_call 14; (with_reducible refine (zah.calls k _ _ l0 false _ ?side1 ?side2 A6.out).mono ?_); (case side1 => repeat (first | exact (Kd.zan HR0.out HB.out) | (with_reducible refine Kd.zau ?_ _) | (with_reducible refine Kd.zav ?_ _) | (with_reducible refine Kd.zaC ?_))); (case side2 => exact HC0.out); rintro e w56 ⟨rfl, hb⟩; have n0_ := zaa.mk (zai (by repeat (first | (with_reducible first | exact HB.out | apply zac | apply zab | apply zae) | exact HB.out)) hb); clear HB; have HB := n0_; clear n0_; (try clear hb); (try clear hb2); (try clear hk); (try clear hi)) | (go_at_call 15; (with_reducible refine (zat.calls k _ _ l0 t186 _ ?side1 ?side2 A10.out).mono ?_); (case side1 => repeat (first | exact (Kd.zan HR0.out HB.out) | (with_reducible refine Kd.zau ?_ _) | (with_reducible refine Kd.zav ?_ _) | (with_reducible refine Kd.zaC ?_))); (case side2 => exact HC0.out); rintro e w57 ⟨v187, rfl, ho0, hb⟩; have n0_ := zaa.mk (Kd.za3 ho0 (zaI (by repeat (first | (with_reducible first | exact HB.out | apply zac | apply zab | apply zae) | exact HB.out)))); have n1_ := zaa.mk (zai (by repeat (first | (with_reducible first | exact HB.out | apply zac | apply zab | apply zae) | exact HB.out)) hb); clear HB; have HO188 := n0_; have HB := n1_; clear n0_ n1_; (try clear hb); (try clear hb2); (try clear hk); (try clear hi); (try clear ho0); obtain ⟨Ao58, co58, eo58⟩ := Kd.zaW HO188.out; subst eo58) | (go_at_call 16; (with_reducible refine (zak.calls a1 (t186.length : Int) t189 _ A11.out).mono ?_); rintro e w' ⟨rfl, ⟨nd, rfl⟩⟩; (try first | exact ⟨rfl, _, World.drewN_drewN _ _ _⟩ | exact ⟨rfl, _, Eq.trans (World.drewN_drewN _ _ _) (congrArg (World.drewN _) (Nat.add_assoc _ _ _))⟩); have p190 : 0 ≤ (t189 : Int) := of_decide_eq_true (by first | (with_reducible assumption) | assumption); have q190 : t189 < (t186.length : Int) := of_decide_eq_true (by first | (with_reducible assumption) | assumption); obtain ⟨ad190, e190, hx190_0⟩ := Kd.zaN (Kd.zas HO188.out).2.2 t189 p190 q190; cases e190; replace p190 := eq_true p190; replace q190 := eq_true q190) | (go_at_call 16; (with_reducible refine (zak.calls a2 (t186.length : Int) t191 _ A14.out).mono ?_); rintro e w' ⟨rfl, ⟨nd, rfl⟩⟩; (try first | exact ⟨rfl, _, World.drewN_drewN _ _ _⟩ | exact ⟨rfl, _, Eq.trans (World.drewN_drewN _ _ _) (congrArg (World.drewN _) (Nat.add_assoc _ _ _))⟩); have p192 : 0 ≤ (t191 : Int) := of_decide_eq_true (by first | (with_reducible assumption) | assumption); have q192 : t191 < (t186.length : Int) := of_decide_eq_true (by first | (with_reducible assumption) | assumption); obtain ⟨ad192, e192, hx192_0⟩ := Kd.zaN (Kd.zas HO188.out).2.2 t191 p192 q192; obtain rfl : ad190 = ad192 := (by injection e192); replace p192 := eq_true p192; replace q192 := eq_true q192) | (go_at_call 16; (with_reducible refine (zak.calls a3 (t186.length : Int) t193 _ A17.out).mono ?_); rintro e w' ⟨rfl, ⟨nd, rfl⟩⟩; (try first | exact ⟨rfl, _, World.drewN_drewN _ _ _⟩ | exact ⟨rfl, _, Eq.trans (World.drewN_drewN _ _ _) (congrArg (World.drewN _) (Nat.add_assoc _ _ _))⟩); have p194 : 0 ≤ (t193 : Int) := of_decide_eq_true (by first | (with_reducible assumption) | assumption); have q194 : t193 < (t186.length : Int) := of_decide_eq_true (by first | (with_reducible assumption) | assumption); obtain ⟨ad194, e194, hx194_0⟩ := Kd.zaN (Kd.zas HO188.out).2.2 t193 p194 q194; obtain rfl : ad190 = ad194 := (by injection e194); replace p194 := eq_true p194; replace q194 := eq_true q194) | (go_at_call 8; (with_reducible refine (zaf.calls k _ _ l0 (rdOf ByteArray.empty t186 t189) (rdOf ByteArray.empty t186 t191) true _ ?side1 ?side2 A20.out).mono ?_); (case side1 => repeat (first | exact (Kd.zan HR0.out (by repeat (first | (with_reducible first | exact HB.out | apply zac | apply zab | apply zae) | exact HB.out))) | (with_reducible refine Kd.zau ?_ _) | (with_reducible refine Kd.zav ?_ _) | (with_reducible refine Kd.zaC ?_))); (case side2 => exact HC0.out); rintro e w59 ⟨rfl, hb⟩; have n0_ := zaa.mk (Kd.zax (by (with_reducible repeat (first | apply Kd.zao | apply Kd.zar | apply Kd.zaB)); exact HO188.out) hb); have n1_ := zaa.mk (zai (by repeat (first | (with_reducible first | exact HB.out | apply zac | apply zab | apply zae) | exact HB.out)) hb); clear HO188; clear HB; have HO188 := n0_; have HB := n1_; clear n0_ n1_; (try clear hb); (try clear hb2); (try clear hk); (try clear hi)) | (go_at_call 8; (with_reducible refine (zaf.calls k _ _ l0 (rdOf ByteArray.empty t186 t191) (rdOf ByteArray.empty t186 t189) false _ ?side1 ?side2 A21.out).mono ?_); (case side1 => repeat (first | exact (Kd.zan HR0.out HB.out) | (with_reducible refine Kd.zau ?_ _) | (with_reducible refine Kd.zav ?_ _) | (with_reducible refine Kd.zaC ?_))); (case side2 => exact HC0.out); rintro e w60 ⟨rfl, hb⟩; have n0_ := zaa.mk (Kd.zax (by (with_reducible repeat (first | apply Kd.zao | apply Kd.zar | apply Kd.zaB)); exact HO188.out) hb); have n1_ := zaa.mk (zai (by repeat (first | (with_reducible first | exact HB.out | apply zac | apply zab | apply zae) | exact HB.out)) hb); clear HO188; clear HB; have HO188 := n0_; have HB := n1_; clear n0_ n1_; (try clear hb); (try clear hb2); (try clear hk); (try clear hi)) | (go_at_call 8; (with_reducible refine (zaf.calls k _ _ l0 (rdOf ByteArray.empty t186 t191) (rdOf ByteArray.empty t186 t193) true _ ?side1 ?side2 A22.out).mono ?_); (case side1 => repeat (first | exact (Kd.zan HR0.out HB.out) | (with_reducible refine Kd.zau ?_ _) | (with_reducible refine Kd.zav ?_ _) | (with_reducible refine Kd.zaC ?_))); (case side2 => exact HC0.out); rintro e w61 ⟨rfl, hb⟩; have n0_ := zaa.mk (Kd.zax (by (with_reducible repeat (first | apply Kd.zao | apply Kd.zar | apply Kd.zaB)); exact HO188.out) hb); have n1_ := zaa.mk (zai (by repeat (first | (with_reducible first | exact HB.out | apply zac | apply zab | apply zae) | exact HB.out)) hb); clear HO188; clear HB; have HO188 := n0_; have HB := n1_; clear n0_ n1_; (try clear hb); (try clear hb2); (try clear hk); (try clear hi)) | (go_at_call 17; (with_reducible refine (zaw.calls k _ _ l0 t198 t199 _ ?side1 ?side2 A23.out).mono ?_); (case side1 => repeat (first | exact (Kd.zan HR0.out HB.out) | (with_reducible refine Kd.zau ?_ _) | (with_reducible refine Kd.zav ?_ _) | (with_reducible refine Kd.zaC ?_))); (case side2 => exact HC0.out); rintro e w62 ⟨rfl, hb⟩; have n0_ := zaa.mk (Kd.zax (by (with_reducible repeat (first | apply Kd.zao | apply Kd.zar | apply Kd.zaB)); exact HO188.out) hb); have n1_ := zaa.mk (zai (by repeat (first | (with_reducible first | exact HB.out | apply zac | apply zab | apply zae) | exact HB.out)) hb); clear HO188; clear HB; have HO188 := n0_; have HB := n1_; clear n0_ n1_; (try clear hb); (try clear hb2); (try clear hk); (try clear hi)) | (go_at_call 8; (with_reducible refine (zaf.calls k _ _ l0 (rdOf ByteArray.empty t186 t189) (rdOf ByteArray.empty t186 t189) true _ ?side1 ?side2 A25.out).mono ?_); (case side1 => repeat (first | exact (Kd.zan HR0.out HB.out) | (with_reducible refine Kd.zau ?_ _) | (with_reducible refine Kd.zav ?_ _) | (with_reducible refine Kd.zaC ?_))); (case side2 => exact HC0.out); rintro e w63 ⟨rfl, hb⟩; have n0_ := zaa.mk (Kd.zax (by (with_reducible repeat (first | apply Kd.zao | apply Kd.zar | apply Kd.zaB)); exact HO188.out) hb); have n1_ := zaa.mk (zai (by repeat (first | (with_reducible first | exact HB.out | apply zac | apply zab | apply zae) | exact HB.out)) hb); clear HO188; clear HB; have HO188 := n0_; have HB := n1_; clear n0_ n1_; (try clear hb); (try clear hb2); (try clear hk); (try clear hi)) | (go_at_call 8; (with_reducible refine (zaf.calls k _ _ l0 (rdOf ByteArray.empty t186 t189) (rdOf ByteArray.empty t186 t193) true _ ?side1 ?side2 A53.out).mono ?_); (case side1 => repeat (first | exact (Kd.zan HR0.out HB.out) | (with_reducible refine Kd.zau ?_ _) | (with_reducible refine Kd.zav ?_ _) | (with_reducible refine Kd.zaC ?_))); (case side2 => exact HC0.out); rintro e w64 ⟨rfl, hb⟩; have n0_ := zaa.mk (Kd.zax (by (with_reducible repeat (first | apply Kd.zao | apply Kd.zar | apply Kd.zaB)); exact HO188.out) hb); have n1_ := zaa.mk (zai (by repeat (first | (with_reducible first | exact HB.out | apply zac | apply zab | apply zae) | exact HB.out)) hb); clear HO188; clear HB; have HO188 := n0_; have HB := n1_; clear n0_ n1_; (try clear hb); (try clear hb2); (try clear hk); (try clear hi))); try go_wp2_with (first | (go_at_call 3; (with_reducible refine (zad.calls k  t184 _ A5.out).mono ?_); rintro e w55 ⟨rfl, hb⟩; have n0_ := zaa.mk (zai (by repeat (first | (with_reducible first | exact HB.out | apply zac | apply zab | apply zae) | exact HB.out)) hb); clear HB; have HB := n0_; clear n0_; (try clear hb); (try clear hb2); (try clear hk); (try clear hi)) | (go_at_call 14; (with_reducible refine (zah.calls k _ _ l0 false _ ?side1 ?side2 A6.out).mono ?_); (case side1 => repeat (first | exact (Kd.zan HR0.out HB.out) | (with_reducible refine Kd.zau ?_ _) | (with_reducible refine Kd.zav ?_ _) | (with_reducible refine Kd.zaC ?_))); (case side2 => exact HC0.out); rintro e w56 ⟨rfl, hb⟩; have n0_ := zaa.mk (zai (by repeat (first | (with_reducible first | exact HB.out | apply zac | apply zab | apply zae) | exact HB.out)) hb); clear HB; have HB := n0_; clear n0_; (try clear hb); (try clear hb2); (try clear hk); (try clear hi)) | (go_at_call 15; (with_reducible refine (zat.calls k _ _ l0 t186 _ ?side1 ?side2 A10.out).mono ?_); (case side1 => repeat (first | exact (Kd.zan HR0.out HB.out) | (with_reducible refine Kd.zau ?_ _) | (with_reducible refine Kd.zav ?_ _) | (with_reducible refine Kd.zaC ?_))); (case side2 => exact HC0.out); rintro e w57 ⟨v187, rfl, ho0, hb⟩; have n0_ := zaa.mk (Kd.za3 ho0 (zaI (by repeat (first | (with_reducible first | exact HB.out | apply zac | apply zab | apply zae) | exact HB.out)))); have n1_ := zaa.mk (zai (by repeat (first | (with_reducible first | exact HB.out | apply zac | apply zab | apply zae) | exact HB.out)) hb); clear HB; have HO188 := n0_; have HB := n1_; clear n0_ n1_; (try clear hb); (try clear hb2); (try clear hk); (try clear hi); (try clear ho0); obtain ⟨Ao58, co58, eo58⟩ := Kd.zaW HO188.out; subst eo58) | (go_at_call 16; (with_reducible refine (zak.calls a1 (t186.length : Int) t189 _ A11.out).mono ?_); rintro e w' ⟨rfl, ⟨nd, rfl⟩⟩; (try first | exact ⟨rfl, _, World.drewN_drewN _ _ _⟩ | exact ⟨rfl, _, Eq.trans (World.drewN_drewN _ _ _) (congrArg (World.drewN _) (Nat.add_assoc _ _ _))⟩); have p190 : 0 ≤ (t189 : Int) := of_decide_eq_true (by first | (with_reducible assumption) | assumption); have q190 : t189 < (t186.length : Int) := of_decide_eq_true (by first | (with_reducible assumption) | assumption); obtain ⟨ad190, e190, hx190_0⟩ := Kd.zaN (Kd.zas HO188.out).2.2 t189 p190 q190; cases e190; replace p190 := eq_true p190; replace q190 := eq_true q190) | (go_at_call 16; (with_reducible refine (zak.calls a2 (t186.length : Int) t191 _ A14.out).mono ?_); rintro e w' ⟨rfl, ⟨nd, rfl⟩⟩; (try first | exact ⟨rfl, _, World.drewN_drewN _ _ _⟩ | exact ⟨rfl, _, Eq.trans (World.drewN_drewN _ _ _) (congrArg (World.drewN _) (Nat.add_assoc _ _ _))⟩); have p192 : 0 ≤ (t191 : Int) := of_decide_eq_true (by first | (with_reducible assumption) | assumption); have q192 : t191 < (t186.length : Int) := of_decide_eq_true (by first | (with_reducible assumption) | assumption); obtain ⟨ad192, e192, hx192_0⟩ := Kd.zaN (Kd.zas HO188.out).2.2 t191 p192 q192; obtain rfl : ad190 = ad192 := (by injection e192); replace p192 := eq_true p192; replace q192 := eq_true q192) | (go_at_call 16; (with_reducible refine (zak.calls a3 (t186.length : Int) t193 _ A17.out).mono ?_); rintro e w' ⟨rfl, ⟨nd, rfl⟩⟩; (try first | exact ⟨rfl, _, World.drewN_drewN _ _ _⟩ | exact ⟨rfl, _, Eq.trans (World.drewN_drewN _ _ _) (congrArg (World.drewN _) (Nat.add_assoc _ _ _))⟩); have p194 : 0 ≤ (t193 : Int) := of_decide_eq_true (by first | (with_reducible assumption) | assumption); have q194 : t193 < (t186.length : Int) := of_decide_eq_true (by first | (with_reducible assumption) | assumption); obtain ⟨ad194, e194, hx194_0⟩ := Kd.zaN (Kd.zas HO188.out).2.2 t193 p194 q194; obtain rfl : ad190 = ad194 := (by injection e194); replace p194 := eq_true p194; replace q194 := eq_true q194) | (go_at_call 8; (with_reducible refine (zaf.calls k _ _ l0 (rdOf ByteArray.empty t186 t189) (rdOf ByteArray.empty t186 t191) true _ ?side1 ?side2 A20.out).mono ?_); (case side1 => repeat (first | exact (Kd.zan HR0.out (by repeat (first | (with_reducible first | exact HB.out | apply zac | apply zab | apply zae) | exact HB.out))) | (with_reducible refine Kd.zau ?_ _) | (with_reducible refine Kd.zav ?_ _) | (with_reducible refine Kd.zaC ?_))); (case side2 => exact HC0.out); rintro e w59 ⟨rfl, hb⟩; have n0_ := zaa.mk (Kd.zax (by (with_reducible repeat (first | apply Kd.zao | apply Kd.zar | apply Kd.zaB)); exact HO188.out) hb); have n1_ := zaa.mk (zai (by repeat (first | (with_reducible first | exact HB.out | apply zac | apply zab | apply zae) | exact HB.out)) hb); clear HO188; clear HB; have HO188 := n0_; have HB := n1_; clear n0_ n1_; (try clear hb); (try clear hb2); (try clear hk); (try clear hi)) | (go_at_call 8; (with_reducible refine (zaf.calls k _ _ l0 (rdOf ByteArray.empty t186 t191) (rdOf ByteArray.empty t186 t189) false _ ?side1 ?side2 A21.out).mono ?_); (case side1 => repeat (first | exact (Kd.zan HR0.out HB.out) | (with_reducible refine Kd.zau ?_ _) | (with_reducible refine Kd.zav ?_ _) | (with_reducible refine Kd.zaC ?_))); (case side2 => exact HC0.out); rintro e w60 ⟨rfl, hb⟩; have n0_ := zaa.mk (Kd.zax (by (with_reducible repeat (first | apply Kd.zao | apply Kd.zar | apply Kd.zaB)); exact HO188.out) hb); have n1_ := zaa.mk (zai (by repeat (first | (with_reducible first | exact HB.out | apply zac | apply zab | apply zae) | exact HB.out)) hb); clear HO188; clear HB; have HO188 := n0_; have HB := n1_; clear n0_ n1_; (try clear hb); (try clear hb2); (try clear hk); (try clear hi)) | (go_at_call 8; (with_reducible refine (zaf.calls k _ _ l0 (rdOf ByteArray.empty t186 t191) (rdOf ByteArray.empty t186 t193) true _ ?side1 ?side2 A22.out).mono ?_); (case side1 => repeat (first | exact (Kd.zan HR0.out HB.out) | (with_reducible refine Kd.zau ?_ _) | (with_reducible refine Kd.zav ?_ _) | (with_reducible refine Kd.zaC ?_))); (case side2 => exact HC0.out); rintro e w61 ⟨rfl, hb⟩; have n0_ := zaa.mk (Kd.zax (by (with_reducible repeat (first | apply Kd.zao | apply Kd.zar | apply Kd.zaB)); exact HO188.out) hb); have n1_ := zaa.mk (zai (by repeat (first | (with_reducible first | exact HB.out | apply zac | apply zab | apply zae) | exact HB.out)) hb); clear HO188; clear HB; have HO188 := n0_; have HB := n1_; clear n0_ n1_; (try clear hb); (try clear hb2); (try clear hk); (try clear hi)) | (go_at_call 17; (with_reducible refine (zaw.calls k _ _ l0 t198 t199 _ ?side1 ?side2 A23.out).mono ?_); (case side1 => repeat (first | exact (Kd.zan HR0.out HB.out) | (with_reducible refine Kd.zau ?_ _) | (with_reducible refine Kd.zav ?_ _) | (with_reducible refine Kd.zaC ?_))); (case side2 => exact HC0.out); rintro e w62 ⟨rfl, hb⟩; have n0_ := zaa.mk (Kd.zax (by (with_reducible repeat (first | apply Kd.zao | apply Kd.zar | apply Kd.zaB)); exact HO188.out) hb); have n1_ := zaa.mk (zai (by repeat (first | (with_reducible first | exact HB.out | apply zac | apply zab | apply zae) | exact HB.out)) hb); clear HO188; clear HB; have HO188 := n0_; have HB := n1_; clear n0_ n1_; (try clear hb); (try clear hb2); (try clear hk); (try clear hi)) | (go_at_call 8; (with_reducible refine (zaf.calls k _ _ l0 (rdOf ByteArray.empty t186 t189) (rdOf ByteArray.empty t186 t189) true _ ?side1 ?side2 A25.out).mono ?_); (case side1 => repeat (first | exact (Kd.zan HR0.out HB.out) | (with_reducible refine Kd.zau ?_ _) | (with_reducible refine Kd.zav ?_ _) | (with_reducible refine Kd.zaC ?_))); (case side2 => exact HC0.out); rintro e w63 ⟨rfl, hb⟩; have n0_ := zaa.mk (Kd.zax (by (with_reducible repeat (first | apply Kd.zao | apply Kd.zar | apply Kd.zaB)); exact HO188.out) hb); have n1_ := zaa.mk (zai (by repeat (first | (with_reducible first | exact HB.out | apply zac | apply zab | apply zae) | exact HB.out)) hb); clear HO188; clear HB; have HO188 := n0_; have HB := n1_; clear n0_ n1_; (try clear hb); (try clear hb2); (try clear hk); (try clear hi)) | (go_at_call 8; (with_reducible refine (zaf.calls k _ _ l0 (rdOf ByteArray.empty t186 t189) (rdOf ByteArray.empty t186 t193) true _ ?side1 ?side2 A53.out).mono ?_); (case side1 => repeat (first | exact (Kd.zan HR0.out HB.out) | (with_reducible refine Kd.zau ?_ _) | (with_reducible refine Kd.zav ?_ _) | (with_reducible refine Kd.zaC ?_))); (case side2 => exact HC0.out); rintro e w64 ⟨rfl, hb⟩; have n0_ := zaa.mk (Kd.zax (by (with_reducible repeat (first | apply Kd.zao | apply Kd.zar | apply Kd.zaB)); exact HO188.out) hb); have n1_ := zaa.mk (zai (by repeat (first | (with_reducible first | exact HB.out | apply zac | apply zab | apply zae) | exact HB.out)) hb); clear HO188; clear HB; have HO188 := n0_; have HB := n1_; clear n0_ n1_; (try clear hb); (try clear hb2); (try clear hk); (try clear hi))))
               go_ret
               exact ⟨by first | rfl | (simp [zaP, zaQ] <;> rfl) | (simp [*, zaP, zaQ] <;> rfl), by repeat (first | (with_reducible first | exact HB.out | apply zac | apply zab | apply zae) | exact HB.out)⟩
             ·
              replace c54 := Bool.eq_false_iff.mpr c54
              subst c54
              have H1 : (none) = some r := by rw [if_neg (show ¬ (false = true) by decide)] at H; exact H
              clear H
              have H := H1
              clear H1
              exact absurd H s9
            ·
             replace c52 := Bool.eq_false_iff.mpr c52
             subst c52
             have H1 : (some t184) = some r := by rw [if_neg (show ¬ (false = true) by decide)] at H; exact H
             clear H
             have H := H1
             clear H1
             as_aux_lemma =>
              obtain rfl := Option.some.inj H
              go_enter Tryd.func4, Tryd.ntmps4
              go_wp2_with (first | (go_at_call 3; (with_reducible refine (zad.calls k  t184 _ A5.out).mono ?_); rintro e w65 ⟨rfl, hb⟩; have n0_ := zaa.mk (zai (by repeat (first | (with_reducible first | exact HB.out | apply zac | apply zab | apply zae) | exact HB.out)) hb); clear HB; have HB := n0_; clear n0_; (try clear hb); (try clear hb2); (try clear hk); (try clear hi)) | (go_at_call 14; (with_reducible refine (zah.calls k _ _ l0 false _ ?side1 ?side2 A6.out).mono ?_); (case side1 => repeat (first | exact (Kd.zan HR0.out HB.out) | (with_reducible refine Kd.zau ?_ _) | (with_reducible refine Kd.zav ?_ _) | (with_reducible refine Kd.zaC ?_))); (case side2 => exact HC0.out); rintro e w66 ⟨rfl, hb⟩; have n0_ := zaa.mk (zai (by repeat (first | (with_reducible first | exact HB.out | apply zac | apply zab | apply zae) | exact HB.out)) hb); clear HB; have HB := n0_; clear n0_; (try clear hb); (try clear hb2); (try clear hk); (try clear hi)) | (go_at_call 15; (with_reducible refine (zat.calls k _ _ l0 t186 _ ?side1 ?side2 A10.out).mono ?_); (case side1 => repeat (first | exact (Kd.zan HR0.out HB.out) | (with_reducible refine Kd.zau ?_ _) | (with_reducible refine Kd.zav ?_ _) | (with_reducible refine Kd.zaC ?_))); (case side2 => exact HC0.out); rintro e w67 ⟨v187, rfl, ho0, hb⟩; have n0_ := zaa.mk (Kd.za3 ho0 (zaI (by repeat (first | (with_reducible first | exact HB.out | apply zac | apply zab | apply zae) | exact HB.out)))); have n1_ := zaa.mk (zai (by repeat (first | (with_reducible first | exact HB.out | apply zac | apply zab | apply zae) | exact HB.out)) hb); clear HB; have HO188 := n0_; have HB := n1_; clear n0_ n1_; (try clear hb); (try clear hb2); (try clear hk); (try clear hi); (try clear ho0); obtain ⟨Ao68, co68, eo68⟩ := Kd.zaW HO188.out; subst eo68) | (go_at_call 16; (with_reducible refine (zak.calls a1 (t186.length : Int) t189 _ A11.out).mono ?_); rintro e w' ⟨rfl, ⟨nd, rfl⟩⟩; (try first | exact ⟨rfl, _, World.drewN_drewN _ _ _⟩ | exact ⟨rfl, _, Eq.trans (World.drewN_drewN _ _ _) (congrArg (World.drewN _) (Nat.add_assoc _ _ _))⟩); have p190 : 0 ≤ (t189 : Int) := of_decide_eq_true (by first | (with_reducible assumption) | assumption); have q190 : t189 < (t186.length : Int) := of_decide_eq_true (by first | (with_reducible assumption) | assumption); obtain ⟨ad190, e190, hx190_0⟩ := Kd.zaN (Kd.zas HO188.out).2.2 t189 p190 q190; cases e190; replace p190 := eq_true p190; replace q190 := eq_true q190) | (go_at_call 16; (with_reducible refine (zak.calls a2 (t186.length : Int) t191 _ A14.out).mono ?_); rintro e w' ⟨rfl, ⟨nd, rfl⟩⟩; (try first | exact ⟨rfl, _, World.drewN_drewN _ _ _⟩ | exact ⟨rfl, _, Eq.trans (World.drewN_drewN _ _ _) (congrArg (World.drewN _) (Nat.add_assoc _ _ _))⟩); have p192 : 0 ≤ (t191 : Int) := of_decide_eq_true (by first | (with_reducible assumption) | assumption); have q192 : t191 < (t186.length : Int) := of_decide_eq_true (by first | (with_reducible assumption) | assumption); obtain ⟨ad192, e192, hx192_0⟩ := Kd.zaN (Kd.zas HO188.out).2.2 t191 p192 q192; obtain rfl : ad190 = ad192 := (by injection e192); replace p192 := eq_true p192; replace q192 := eq_true q192) | (go_at_call 16; (with_reducible refine (zak.calls a3 (t186.length : Int) t193 _ A17.out).mono ?_); rintro e w' ⟨rfl, ⟨nd, rfl⟩⟩; (try first | exact ⟨rfl, _, World.drewN_drewN _ _ _⟩ | exact ⟨rfl, _, Eq.trans (World.drewN_drewN _ _ _) (congrArg (World.drewN _) (Nat.add_assoc _ _ _))⟩); have p194 : 0 ≤ (t193 : Int) := of_decide_eq_true (by first | (with_reducible assumption) | assumption); have q194 : t193 < (t186.length : Int) := of_decide_eq_true (by first | (with_reducible assumption) | assumption); obtain ⟨ad194, e194, hx194_0⟩ := Kd.zaN (Kd.zas HO188.out).2.2 t193 p194 q194; obtain rfl : ad190 = ad194 := (by injection e194); replace p194 := eq_true p194; replace q194 := eq_true q194) | (go_at_call 8; (with_reducible refine (zaf.calls k _ _ l0 (rdOf ByteArray.empty t186 t189) (rdOf ByteArray.empty t186 t191) true _ ?side1 ?side2 A20.out).mono ?_); (case side1 => repeat (first | exact (Kd.zan HR0.out (by repeat (first | (with_reducible first | exact HB.out | apply zac | apply zab | apply zae) | exact HB.out))) | (with_reducible refine Kd.zau ?_ _) | (with_reducible refine Kd.zav ?_ _) | (with_reducible refine Kd.zaC ?_))); (case side2 => exact HC0.out); rintro e w69 ⟨rfl, hb⟩; have n0_ := zaa.mk (Kd.zax (by (with_reducible repeat (first | apply Kd.zao | apply Kd.zar | apply Kd.zaB)); exact HO188.out) hb); have n1_ := zaa.mk (zai (by repeat (first | (with_reducible first | exact HB.out | apply zac | apply zab | apply zae) | exact HB.out)) hb); clear HO188; clear HB; have HO188 := n0_; have HB := n1_; clear n0_ n1_; (try clear hb); (try clear hb2); (try clear hk); (try clear hi)) | (go_at_call 8; (with_reducible refine (zaf.calls k _ _ l0 (rdOf ByteArray.empty t186 t191) (rdOf ByteArray.empty t186 t189) false _ ?side1 ?side2 A21.out).mono ?_); (case side1 => repeat (first | exact (Kd.zan HR0.out HB.out) | (with_reducible refine Kd.zau ?_ _) | (with_reducible refine Kd.zav ?_ _) | (with_reducible refine Kd.zaC ?_))); (case side2 => exact HC0.out); rintro e w70 ⟨rfl, hb⟩; have n0_ := zaa.mk (Kd.zax (by (with_reducible repeat (first | apply Kd.zao | apply Kd.zar | apply Kd.zaB)); exact HO188.out) hb); have n1_ := zaa.mk (zai (by repeat (first | (with_reducible first | exact HB.out | apply zac | apply zab | apply zae) | exact HB.out)) hb); clear HO188; clear HB; have HO188 := n0_; have HB := n1_; clear n0_ n1_; (try clear hb); (try clear hb2); (try clear hk); (try clear hi)) | (go_at_call 8; (with_reducible refine (zaf.calls k _ _ l0 (rdOf ByteArray.empty t186 t191) (rdOf ByteArray.empty t186 t193) false _ ?side1 ?side2 A22.out).mono ?_); (case side1 => repeat (first | exact (Kd.zan HR0.out HB.out) | (with_reducible refine Kd.zau ?_ _) | (with_reducible refine Kd.zav ?_ _) | (with_reducible refine Kd.zaC ?_))); (case side2 => exact HC0.out); rintro e w71 ⟨rfl, hb⟩; have n0_ := zaa.mk (Kd.zax (by (with_reducible repeat (first | apply Kd.zao | apply Kd.zar | apply Kd.zaB)); exact HO188.out) hb); have n1_ := zaa.mk (zai (by repeat (first | (with_reducible first | exact HB.out | apply zac | apply zab | apply zae) | exact HB.out)) hb); clear HO188; clear HB; have HO188 := n0_; have HB := n1_; clear n0_ n1_; (try clear hb); (try clear hb2); (try clear hk); (try clear hi)) | (go_at_call 17; (with_reducible refine (zaw.calls k _ _ l0 t198 t199 _ ?side1 ?side2 A23.out).mono ?_); (case side1 => repeat (first | exact (Kd.zan HR0.out HB.out) | (with_reducible refine Kd.zau ?_ _) | (with_reducible refine Kd.zav ?_ _) | (with_reducible refine Kd.zaC ?_))); (case side2 => exact HC0.out); rintro e w72 ⟨rfl, hb⟩; have n0_ := zaa.mk (Kd.zax (by (with_reducible repeat (first | apply Kd.zao | apply Kd.zar | apply Kd.zaB)); exact HO188.out) hb); have n1_ := zaa.mk (zai (by repeat (first | (with_reducible first | exact HB.out | apply zac | apply zab | apply zae) | exact HB.out)) hb); clear HO188; clear HB; have HO188 := n0_; have HB := n1_; clear n0_ n1_; (try clear hb); (try clear hb2); (try clear hk); (try clear hi)) | (go_at_call 8; (with_reducible refine (zaf.calls k _ _ l0 (rdOf ByteArray.empty t186 t189) (rdOf ByteArray.empty t186 t189) true _ ?side1 ?side2 A25.out).mono ?_); (case side1 => repeat (first | exact (Kd.zan HR0.out HB.out) | (with_reducible refine Kd.zau ?_ _) | (with_reducible refine Kd.zav ?_ _) | (with_reducible refine Kd.zaC ?_))); (case side2 => exact HC0.out); rintro e w73 ⟨rfl, hb⟩; have n0_ := zaa.mk (Kd.zax (by (with_reducible repeat (first | apply Kd.zao | apply Kd.zar | apply Kd.zaB)); exact HO188.out) hb); have n1_ := zaa.mk (zai (by repeat (first | (with_reducible first | exact HB.out | apply zac | apply zab | apply zae) | exact HB.out)) hb); clear HO188; clear HB; have HO188 := n0_; have HB := n1_; clear n0_ n1_; (try clear hb); (try clear hb2); (try clear hk); (try clear hi)))
              repeat (go_quiet (first | (go_at_call 3; (with_reducible refine (zad.calls k  t184 _ A5.out).mono ?_); rintro e w65 ⟨rfl, hb⟩; have n0_ := zaa.mk (zai (by repeat (first | (with_reducible first | exact HB.out | apply zac | apply zab | apply zae) | exact HB.out)) hb); clear HB; have HB := n0_; clear n0_; (try clear hb); (try clear hb2); (try clear hk); (try clear hi)) | (go_at_call 14; (with_reducible refine (zah.calls k _ _ l0 false _ ?side1 ?side2 A6.out).mono ?_); (case side1 => repeat (first | exact (Kd.zan HR0.out HB.out) | (with_reducible refine Kd.zau ?_ _) | (with_reducible refine Kd.zav ?_ _) | (with_reducible refine Kd.zaC ?_))); (case side2 => exact HC0.out); rintro e w66 ⟨rfl, hb⟩; have n0_ := zaa.mk (zai (by repeat (first | (with_reducible first | exact HB.out | apply zac | apply zab | apply zae) | exact HB.out)) hb); clear HB; have HB := n0_; clear n0_; (try clear hb); (try clear hb2); (try clear hk); (try clear hi)) | (go_at_call 15; (with_reducible refine (zat.calls k _ _ l0 t186 _ ?side1 ?side2 A10.out).mono ?_); (case side1 => repeat (first | exact (Kd.zan HR0.out HB.out) | (with_reducible refine Kd.zau ?_ _) | (with_reducible refine Kd.zav ?_ _) | (with_reducible refine Kd.zaC ?_))); (case side2 => exact HC0.out); rintro e w67 ⟨v187, rfl, ho0, hb⟩; have n0_ := zaa.mk (Kd.za3 ho0 (zaI (by repeat (first | (with_reducible first | exact HB.out | apply zac | apply zab | apply zae) | exact HB.out)))); have n1_ := zaa.mk (zai (by repeat (first | (with_reducible first | exact HB.out | apply zac | apply zab | apply zae) | exact HB.out)) hb); clear HB; have HO188 := n0_; have HB := n1_; clear n0_ n1_; (try clear hb); (try clear hb2); (try clear hk); (try clear hi); (try clear ho0); obtain ⟨Ao68, co68, eo68⟩ := Kd.zaW HO188.out; subst eo68) | (go_at_call 16; (with_reducible refine (zak.calls a1 (t186.length : Int) t189 _ A11.out).mono ?_); rintro e w' ⟨rfl, ⟨nd, rfl⟩⟩; (try first | exact ⟨rfl, _, World.drewN_drewN _ _ _⟩ | exact ⟨rfl, _, Eq.trans (World.drewN_drewN _ _ _) (congrArg (World.drewN _) (Nat.add_assoc _ _ _))⟩); have p190 : 0 ≤ (t189 : Int) := of_decide_eq_true (by first | (with_reducible assumption) | assumption); have q190 : t189 < (t186.length : Int) := of_decide_eq_true (by first | (with_reducible assumption) | assumption); obtain ⟨ad190, e190, hx190_0⟩ := Kd.zaN (Kd.zas HO188.out).2.2 t189 p190 q190; cases e190; replace p190 := eq_true p190; replace q190 := eq_true q190) | (go_at_call 16; (with_reducible refine (zak.calls a2 (t186.length : Int) t191 _ A14.out).mono ?_); rintro e w' ⟨rfl, ⟨nd, rfl⟩⟩; (try first | exact ⟨rfl, _, World.drewN_drewN _ _ _⟩ | exact ⟨rfl, _, Eq.trans (World.drewN_drewN _ _ _) (congrArg (World.drewN _) (Nat.add_assoc _ _ _))⟩); have p192 : 0 ≤ (t191 : Int) := of_decide_eq_true (by first | (with_reducible assumption) | assumption); have q192 : t191 < (t186.length : Int) := of_decide_eq_true (by first | (with_reducible assumption) | assumption); obtain ⟨ad192, e192, hx192_0⟩ := Kd.zaN (Kd.zas HO188.out).2.2 t191 p192 q192; obtain rfl : ad190 = ad192 := (by injection e192); replace p192 := eq_true p192; replace q192 := eq_true q192) | (go_at_call 16; (with_reducible refine (zak.calls a3 (t186.length : Int) t193 _ A17.out).mono ?_); rintro e w' ⟨rfl, ⟨nd, rfl⟩⟩; (try first | exact ⟨rfl, _, World.drewN_drewN _ _ _⟩ | exact ⟨rfl, _, Eq.trans (World.drewN_drewN _ _ _) (congrArg (World.drewN _) (Nat.add_assoc _ _ _))⟩); have p194 : 0 ≤ (t193 : Int) := of_decide_eq_true (by first | (with_reducible assumption) | assumption); have q194 : t193 < (t186.length : Int) := of_decide_eq_true (by first | (with_reducible assumption) | assumption); obtain ⟨ad194, e194, hx194_0⟩ := Kd.zaN (Kd.zas HO188.out).2.2 t193 p194 q194; obtain rfl : ad190 = ad194 := (by injection e194); replace p194 := eq_true p194; replace q194 := eq_true q194) | (go_at_call 8; (with_reducible refine (zaf.calls k _ _ l0 (rdOf ByteArray.empty t186 t189) (rdOf ByteArray.empty t186 t191) true _ ?side1 ?side2 A20.out).mono ?_); (case side1 => repeat (first | exact (Kd.zan HR0.out (by repeat (first | (with_reducible first | exact HB.out | apply zac | apply zab | apply zae) | exact HB.out))) | (with_reducible refine Kd.zau ?_ _) | (with_reducible refine Kd.zav ?_ _) | (with_reducible refine Kd.zaC ?_))); (case side2 => exact HC0.out); rintro e w69 ⟨rfl, hb⟩; have n0_ := zaa.mk (Kd.zax (by (with_reducible repeat (first | apply Kd.zao | apply Kd.zar | apply Kd.zaB)); exact HO188.out) hb); have n1_ := zaa.mk (zai (by repeat (first | (with_reducible first | exact HB.out | apply zac | apply zab | apply zae) | exact HB.out)) hb); clear HO188; clear HB; have HO188 := n0_; have HB := n1_; clear n0_ n1_; (try clear hb); (try clear hb2); (try clear hk); (try clear hi)) | (go_at_call 8; (with_reducible refine (zaf.calls k _ _ l0 (rdOf ByteArray.empty t186 t191) (rdOf ByteArray.empty t186 t189) false _ ?side1 ?side2 A21.out).mono ?_); (case side1 => repeat (first | exact (Kd.zan HR0.out HB.out) | (with_reducible refine Kd.zau ?_ _) | (with_reducible refine Kd.zav ?_ _) | (with_reducible refine Kd.zaC ?_))); (case side2 => exact HC0.out); rintro e w70 ⟨rfl, hb⟩; have n0_ := zaa.mk (Kd.zax (by (with_reducible repeat (first | apply Kd.zao | apply Kd.zar | apply Kd.zaB)); exact HO188.out) hb); have n1_ := zaa.mk (zai (by repeat (first | (with_reducible first | exact HB.out | apply zac | apply zab | apply zae) | exact HB.out)) hb); clear HO188; clear HB; have HO188 := n0_; have HB := n1_; clear n0_ n1_; (try clear hb); (try clear hb2); (try clear hk); (try clear hi)) | (go_at_call 8; (with_reducible refine (zaf.calls k _ _ l0 (rdOf ByteArray.empty t186 t191) (rdOf ByteArray.empty t186 t193) false _ ?side1 ?side2 A22.out).mono ?_); (case side1 => repeat (first | exact (Kd.zan HR0.out HB.out) | (with_reducible refine Kd.zau ?_ _) | (with_reducible refine Kd.zav ?_ _) | (with_reducible refine Kd.zaC ?_))); (case side2 => exact HC0.out); rintro e w71 ⟨rfl, hb⟩; have n0_ := zaa.mk (Kd.zax (by (with_reducible repeat (first | apply Kd.zao | apply Kd.zar | apply Kd.zaB)); exact HO188.out) hb); have n1_ := zaa.mk (zai (by repeat (first | (with_reducible first | exact HB.out | apply zac | apply zab | apply zae) | exact HB.out)) hb); clear HO188; clear HB; have HO188 := n0_; have HB := n1_; clear n0_ n1_; (try clear hb); (try clear hb2); (try clear hk); (try clear hi)) | (go_at_call 17; (with_reducible refine (zaw.calls k _ _ l0 t198 t199 _ ?side1 ?side2 A23.out).mono ?_); (case side1 => repeat (first | exact (Kd.zan HR0.out HB.out) | (with_reducible refine Kd.zau ?_ _) | (with_reducible refine Kd.zav ?_ _) | (with_reducible refine Kd.zaC ?_))); (case side2 => exact HC0.out); rintro e w72 ⟨rfl, hb⟩; have n0_ := zaa.mk (Kd.zax (by (with_reducible repeat (first | apply Kd.zao | apply Kd.zar | apply Kd.zaB)); exact HO188.out) hb); have n1_ := zaa.mk (zai (by repeat (first | (with_reducible first | exact HB.out | apply zac | apply zab | apply zae) | exact HB.out)) hb); clear HO188; clear HB; have HO188 := n0_; have HB := n1_; clear n0_ n1_; (try clear hb); (try clear hb2); (try clear hk); (try clear hi)) | (go_at_call 8; (with_reducible refine (zaf.calls k _ _ l0 (rdOf ByteArray.empty t186 t189) (rdOf ByteArray.empty t186 t189) true _ ?side1 ?side2 A25.out).mono ?_); (case side1 => repeat (first | exact (Kd.zan HR0.out HB.out) | (with_reducible refine Kd.zau ?_ _) | (with_reducible refine Kd.zav ?_ _) | (with_reducible refine Kd.zaC ?_))); (case side2 => exact HC0.out); rintro e w73 ⟨rfl, hb⟩; have n0_ := zaa.mk (Kd.zax (by (with_reducible repeat (first | apply Kd.zao | apply Kd.zar | apply Kd.zaB)); exact HO188.out) hb); have n1_ := zaa.mk (zai (by repeat (first | (with_reducible first | exact HB.out | apply zac | apply zab | apply zae) | exact HB.out)) hb); clear HO188; clear HB; have HO188 := n0_; have HB := n1_; clear n0_ n1_; (try clear hb); (try clear hb2); (try clear hk); (try clear hi))); try go_wp2_with (first | (go_at_call 3; (with_reducible refine (zad.calls k  t184 _ A5.out).mono ?_); rintro e w65 ⟨rfl, hb⟩; have n0_ := zaa.mk (zai (by repeat (first | (with_reducible first | exact HB.out | apply zac | apply zab | apply zae) | exact HB.out)) hb); clear HB; have HB := n0_; clear n0_; (try clear hb); (try clear hb2); (try clear hk); (try clear hi)) | (go_at_call 14; (with_reducible refine (zah.calls k _ _ l0 false _ ?side1 ?side2 A6.out).mono ?_); (case side1 => repeat (first | exact (Kd.zan HR0.out HB.out) | (with_reducible refine Kd.zau ?_ _) | (with_reducible refine Kd.zav ?_ _) | (with_reducible refine Kd.zaC ?_))); (case side2 => exact HC0.out); rintro e w66 ⟨rfl, hb⟩; have n0_ := zaa.mk (zai (by repeat (first | (with_reducible first | exact HB.out | apply zac | apply zab | apply zae) | exact HB.out)) hb); clear HB; have HB := n0_; clear n0_; (try clear hb); (try clear hb2); (try clear hk); (try clear hi)) | (go_at_call 15; (with_reducible refine (zat.calls k _ _ l0 t186 _ ?side1 ?side2 A10.out).mono ?_); (case side1 => repeat (first | exact (Kd.zan HR0.out HB.out) | (with_reducible refine Kd.zau ?_ _) | (with_reducible refine Kd.zav ?_ _) | (with_reducible refine Kd.zaC ?_))); (case side2 => exact HC0.out); rintro e w67 ⟨v187, rfl, ho0, hb⟩; have n0_ := zaa.mk (Kd.za3 ho0 (zaI (by repeat (first | (with_reducible first | exact HB.out | apply zac | apply zab | apply zae) | exact HB.out)))); have n1_ := zaa.mk (zai (by repeat (first | (with_reducible first | exact HB.out | apply zac | apply zab | apply zae) | exact HB.out)) hb); clear HB; have HO188 := n0_; have HB := n1_; clear n0_ n1_; (try clear hb); (try clear hb2); (try clear hk); (try clear hi); (try clear ho0); obtain ⟨Ao68, co68, eo68⟩ := Kd.zaW HO188.out; subst eo68) | (go_at_call 16; (with_reducible refine (zak.calls a1 (t186.length : Int) t189 _ A11.out).mono ?_); rintro e w' ⟨rfl, ⟨nd, rfl⟩⟩; (try first | exact ⟨rfl, _, World.drewN_drewN _ _ _⟩ | exact ⟨rfl, _, Eq.trans (World.drewN_drewN _ _ _) (congrArg (World.drewN _) (Nat.add_assoc _ _ _))⟩); have p190 : 0 ≤ (t189 : Int) := of_decide_eq_true (by first | (with_reducible assumption) | assumption); have q190 : t189 < (t186.length : Int) := of_decide_eq_true (by first | (with_reducible assumption) | assumption); obtain ⟨ad190, e190, hx190_0⟩ := Kd.zaN (Kd.zas HO188.out).2.2 t189 p190 q190; cases e190; replace p190 := eq_true p190; replace q190 := eq_true q190) | (go_at_call 16; (with_reducible refine (zak.calls a2 (t186.length : Int) t191 _ A14.out).mono ?_); rintro e w' ⟨rfl, ⟨nd, rfl⟩⟩; (try first | exact ⟨rfl, _, World.drewN_drewN _ _ _⟩ | exact ⟨rfl, _, Eq.trans (World.drewN_drewN _ _ _) (congrArg (World.drewN _) (Nat.add_assoc _ _ _))⟩); have p192 : 0 ≤ (t191 : Int) := of_decide_eq_true (by first | (with_reducible assumption) | assumption); have q192 : t191 < (t186.length : Int) := of_decide_eq_true (by first | (with_reducible assumption) | assumption); obtain ⟨ad192, e192, hx192_0⟩ := Kd.zaN (Kd.zas HO188.out).2.2 t191 p192 q192; obtain rfl : ad190 = ad192 := (by injection e192); replace p192 := eq_true p192; replace q192 := eq_true q192) | (go_at_call 16; (with_reducible refine (zak.calls a3 (t186.length : Int) t193 _ A17.out).mono ?_); rintro e w' ⟨rfl, ⟨nd, rfl⟩⟩; (try first | exact ⟨rfl, _, World.drewN_drewN _ _ _⟩ | exact ⟨rfl, _, Eq.trans (World.drewN_drewN _ _ _) (congrArg (World.drewN _) (Nat.add_assoc _ _ _))⟩); have p194 : 0 ≤ (t193 : Int) := of_decide_eq_true (by first | (with_reducible assumption) | assumption); have q194 : t193 < (t186.length : Int) := of_decide_eq_true (by first | (with_reducible assumption) | assumption); obtain ⟨ad194, e194, hx194_0⟩ := Kd.zaN (Kd.zas HO188.out).2.2 t193 p194 q194; obtain rfl : ad190 = ad194 := (by injection e194); replace p194 := eq_true p194; replace q194 := eq_true q194) | (go_at_call 8; (with_reducible refine (zaf.calls k _ _ l0 (rdOf ByteArray.empty t186 t189) (rdOf ByteArray.empty t186 t191) true _ ?side1 ?side2 A20.out).mono ?_); (case side1 => repeat (first | exact (Kd.zan HR0.out (by repeat (first | (with_reducible first | exact HB.out | apply zac | apply zab | apply zae) | exact HB.out))) | (with_reducible refine Kd.zau ?_ _) | (with_reducible refine Kd.zav ?_ _) | (with_reducible refine Kd.zaC ?_))); (case side2 => exact HC0.out); rintro e w69 ⟨rfl, hb⟩; have n0_ := zaa.mk (Kd.zax (by (with_reducible repeat (first | apply Kd.zao | apply Kd.zar | apply Kd.zaB)); exact HO188.out) hb); have n1_ := zaa.mk (zai (by repeat (first | (with_reducible first | exact HB.out | apply zac | apply zab | apply zae) | exact HB.out)) hb); clear HO188; clear HB; have HO188 := n0_; have HB := n1_; clear n0_ n1_; (try clear hb); (try clear hb2); (try clear hk); (try clear hi)) | (go_at_call 8; (with_reducible refine (zaf.calls k _ _ l0 (rdOf ByteArray.empty t186 t191) (rdOf ByteArray.empty t186 t189) false _ ?side1 ?side2 A21.out).mono ?_); (case side1 => repeat (first | exact (Kd.zan HR0.out HB.out) | (with_reducible refine Kd.zau ?_ _) | (with_reducible refine Kd.zav ?_ _) | (with_reducible refine Kd.zaC ?_))); (case side2 => exact HC0.out); rintro e w70 ⟨rfl, hb⟩; have n0_ := zaa.mk (Kd.zax (by (with_reducible repeat (first | apply Kd.zao | apply Kd.zar | apply Kd.zaB)); exact HO188.out) hb); have n1_ := zaa.mk (zai (by repeat (first | (with_reducible first | exact HB.out | apply zac | apply zab | apply zae) | exact HB.out)) hb); clear HO188; clear HB; have HO188 := n0_; have HB := n1_; clear n0_ n1_; (try clear hb); (try clear hb2); (try clear hk); (try clear hi)) | (go_at_call 8; (with_reducible refine (zaf.calls k _ _ l0 (rdOf ByteArray.empty t186 t191) (rdOf ByteArray.empty t186 t193) false _ ?side1 ?side2 A22.out).mono ?_); (case side1 => repeat (first | exact (Kd.zan HR0.out HB.out) | (with_reducible refine Kd.zau ?_ _) | (with_reducible refine Kd.zav ?_ _) | (with_reducible refine Kd.zaC ?_))); (case side2 => exact HC0.out); rintro e w71 ⟨rfl, hb⟩; have n0_ := zaa.mk (Kd.zax (by (with_reducible repeat (first | apply Kd.zao | apply Kd.zar | apply Kd.zaB)); exact HO188.out) hb); have n1_ := zaa.mk (zai (by repeat (first | (with_reducible first | exact HB.out | apply zac | apply zab | apply zae) | exact HB.out)) hb); clear HO188; clear HB; have HO188 := n0_; have HB := n1_; clear n0_ n1_; (try clear hb); (try clear hb2); (try clear hk); (try clear hi)) | (go_at_call 17; (with_reducible refine (zaw.calls k _ _ l0 t198 t199 _ ?side1 ?side2 A23.out).mono ?_); (case side1 => repeat (first | exact (Kd.zan HR0.out HB.out) | (with_reducible refine Kd.zau ?_ _) | (with_reducible refine Kd.zav ?_ _) | (with_reducible refine Kd.zaC ?_))); (case side2 => exact HC0.out); rintro e w72 ⟨rfl, hb⟩; have n0_ := zaa.mk (Kd.zax (by (with_reducible repeat (first | apply Kd.zao | apply Kd.zar | apply Kd.zaB)); exact HO188.out) hb); have n1_ := zaa.mk (zai (by repeat (first | (with_reducible first | exact HB.out | apply zac | apply zab | apply zae) | exact HB.out)) hb); clear HO188; clear HB; have HO188 := n0_; have HB := n1_; clear n0_ n1_; (try clear hb); (try clear hb2); (try clear hk); (try clear hi)) | (go_at_call 8; (with_reducible refine (zaf.calls k _ _ l0 (rdOf ByteArray.empty t186 t189) (rdOf ByteArray.empty t186 t189) true _ ?side1 ?side2 A25.out).mono ?_); (case side1 => repeat (first | exact (Kd.zan HR0.out HB.out) | (with_reducible refine Kd.zau ?_ _) | (with_reducible refine Kd.zav ?_ _) | (with_reducible refine Kd.zaC ?_))); (case side2 => exact HC0.out); rintro e w73 ⟨rfl, hb⟩; have n0_ := zaa.mk (Kd.zax (by (with_reducible repeat (first | apply Kd.zao | apply Kd.zar | apply Kd.zaB)); exact HO188.out) hb); have n1_ := zaa.mk (zai (by repeat (first | (with_reducible first | exact HB.out | apply zac | apply zab | apply zae) | exact HB.out)) hb); clear HO188; clear HB; have HO188 := n0_; have HB := n1_; clear n0_ n1_; (try clear hb); (try clear hb2); (try clear hk); (try clear hi))))
              go_ret
              exact ⟨by first | rfl | (simp [zaP, zaQ] <;> rfl) | (simp [*, zaP, zaQ] <;> rfl), by repeat (first | (with_reducible first | exact HB.out | apply zac | apply zab | apply zae) | exact HB.out)⟩
          ·
           replace c27 := Bool.eq_false_iff.mpr c27
           subst c27
           have H1 : (some t184) = some r := by rw [if_neg (show ¬ (false = true) by decide)] at H; exact H
           clear H
           have H := H1
           clear H1
           as_aux_lemma =>
            obtain rfl := Option.some.inj H
            go_enter Tryd.func4, Tryd.ntmps4
            go_wp2_with (first | (go_at_call 3; (with_reducible refine (zad.calls k  t184 _ A5.out).mono ?_); rintro e w74 ⟨rfl, hb⟩; have n0_ := zaa.mk (zai (by repeat (first | (with_reducible first | exact HB.out | apply zac | apply zab | apply zae) | exact HB.out)) hb); clear HB; have HB := n0_; clear n0_; (try clear hb); (try clear hb2); (try clear hk); (try clear hi)) | (go_at_call 14; (with_reducible refine (zah.calls k _ _ l0 false _ ?side1 ?side2 A6.out).mono ?_); (case side1 => repeat (first | exact (Kd.zan HR0.out HB.out) | (with_reducible refine Kd.zau ?_ _) | (with_reducible refine Kd.zav ?_ _) | (with_reducible refine Kd.zaC ?_))); (case side2 => exact HC0.out); rintro e w75 ⟨rfl, hb⟩; have n0_ := zaa.mk (zai (by repeat (first | (with_reducible first | exact HB.out | apply zac | apply zab | apply zae) | exact HB.out)) hb); clear HB; have HB := n0_; clear n0_; (try clear hb); (try clear hb2); (try clear hk); (try clear hi)) | (go_at_call 15; (with_reducible refine (zat.calls k _ _ l0 t186 _ ?side1 ?side2 A10.out).mono ?_); (case side1 => repeat (first | exact (Kd.zan HR0.out HB.out) | (with_reducible refine Kd.zau ?_ _) | (with_reducible refine Kd.zav ?_ _) | (with_reducible refine Kd.zaC ?_))); (case side2 => exact HC0.out); rintro e w76 ⟨v187, rfl, ho0, hb⟩; have n0_ := zaa.mk (Kd.za3 ho0 (zaI (by repeat (first | (with_reducible first | exact HB.out | apply zac | apply zab | apply zae) | exact HB.out)))); have n1_ := zaa.mk (zai (by repeat (first | (with_reducible first | exact HB.out | apply zac | apply zab | apply zae) | exact HB.out)) hb); clear HB; have HO188 := n0_; have HB := n1_; clear n0_ n1_; (try clear hb); (try clear hb2); (try clear hk); (try clear hi); (try clear ho0); obtain ⟨Ao77, co77, eo77⟩ := Kd.zaW HO188.out; subst eo77) | (go_at_call 16; (with_reducible refine (zak.calls a1 (t186.length : Int) t189 _ A11.out).mono ?_); rintro e w' ⟨rfl, ⟨nd, rfl⟩⟩; (try first | exact ⟨rfl, _, World.drewN_drewN _ _ _⟩ | exact ⟨rfl, _, Eq.trans (World.drewN_drewN _ _ _) (congrArg (World.drewN _) (Nat.add_assoc _ _ _))⟩); have p190 : 0 ≤ (t189 : Int) := of_decide_eq_true (by first | (with_reducible assumption) | assumption); have q190 : t189 < (t186.length : Int) := of_decide_eq_true (by first | (with_reducible assumption) | assumption); obtain ⟨ad190, e190, hx190_0⟩ := Kd.zaN (Kd.zas HO188.out).2.2 t189 p190 q190; cases e190; replace p190 := eq_true p190; replace q190 := eq_true q190) | (go_at_call 16; (with_reducible refine (zak.calls a2 (t186.length : Int) t191 _ A14.out).mono ?_); rintro e w' ⟨rfl, ⟨nd, rfl⟩⟩; (try first | exact ⟨rfl, _, World.drewN_drewN _ _ _⟩ | exact ⟨rfl, _, Eq.trans (World.drewN_drewN _ _ _) (congrArg (World.drewN _) (Nat.add_assoc _ _ _))⟩); have p192 : 0 ≤ (t191 : Int) := of_decide_eq_true (by first | (with_reducible assumption) | assumption); have q192 : t191 < (t186.length : Int) := of_decide_eq_true (by first | (with_reducible assumption) | assumption); obtain ⟨ad192, e192, hx192_0⟩ := Kd.zaN (Kd.zas HO188.out).2.2 t191 p192 q192; obtain rfl : ad190 = ad192 := (by injection e192); replace p192 := eq_true p192; replace q192 := eq_true q192) | (go_at_call 16; (with_reducible refine (zak.calls a3 (t186.length : Int) t193 _ A17.out).mono ?_); rintro e w' ⟨rfl, ⟨nd, rfl⟩⟩; (try first | exact ⟨rfl, _, World.drewN_drewN _ _ _⟩ | exact ⟨rfl, _, Eq.trans (World.drewN_drewN _ _ _) (congrArg (World.drewN _) (Nat.add_assoc _ _ _))⟩); have p194 : 0 ≤ (t193 : Int) := of_decide_eq_true (by first | (with_reducible assumption) | assumption); have q194 : t193 < (t186.length : Int) := of_decide_eq_true (by first | (with_reducible assumption) | assumption); obtain ⟨ad194, e194, hx194_0⟩ := Kd.zaN (Kd.zas HO188.out).2.2 t193 p194 q194; obtain rfl : ad190 = ad194 := (by injection e194); replace p194 := eq_true p194; replace q194 := eq_true q194) | (go_at_call 8; (with_reducible refine (zaf.calls k _ _ l0 (rdOf ByteArray.empty t186 t189) (rdOf ByteArray.empty t186 t191) false _ ?side1 ?side2 A20.out).mono ?_); (case side1 => repeat (first | exact (Kd.zan HR0.out (by repeat (first | (with_reducible first | exact HB.out | apply zac | apply zab | apply zae) | exact HB.out))) | (with_reducible refine Kd.zau ?_ _) | (with_reducible refine Kd.zav ?_ _) | (with_reducible refine Kd.zaC ?_))); (case side2 => exact HC0.out); rintro e w78 ⟨rfl, hb⟩; have n0_ := zaa.mk (Kd.zax (by (with_reducible repeat (first | apply Kd.zao | apply Kd.zar | apply Kd.zaB)); exact HO188.out) hb); have n1_ := zaa.mk (zai (by repeat (first | (with_reducible first | exact HB.out | apply zac | apply zab | apply zae) | exact HB.out)) hb); clear HO188; clear HB; have HO188 := n0_; have HB := n1_; clear n0_ n1_; (try clear hb); (try clear hb2); (try clear hk); (try clear hi)) | (go_at_call 8; (with_reducible refine (zaf.calls k _ _ l0 (rdOf ByteArray.empty t186 t191) (rdOf ByteArray.empty t186 t189) t196 _ ?side1 ?side2 A21.out).mono ?_); (case side1 => repeat (first | exact (Kd.zan HR0.out HB.out) | (with_reducible refine Kd.zau ?_ _) | (with_reducible refine Kd.zav ?_ _) | (with_reducible refine Kd.zaC ?_))); (case side2 => exact HC0.out); rintro e w79 ⟨rfl, hb⟩; have n0_ := zaa.mk (Kd.zax (by (with_reducible repeat (first | apply Kd.zao | apply Kd.zar | apply Kd.zaB)); exact HO188.out) hb); have n1_ := zaa.mk (zai (by repeat (first | (with_reducible first | exact HB.out | apply zac | apply zab | apply zae) | exact HB.out)) hb); clear HO188; clear HB; have HO188 := n0_; have HB := n1_; clear n0_ n1_; (try clear hb); (try clear hb2); (try clear hk); (try clear hi)) | (go_at_call 8; (with_reducible refine (zaf.calls k _ _ l0 (rdOf ByteArray.empty t186 t191) (rdOf ByteArray.empty t186 t193) t197 _ ?side1 ?side2 A22.out).mono ?_); (case side1 => repeat (first | exact (Kd.zan HR0.out HB.out) | (with_reducible refine Kd.zau ?_ _) | (with_reducible refine Kd.zav ?_ _) | (with_reducible refine Kd.zaC ?_))); (case side2 => exact HC0.out); rintro e w80 ⟨rfl, hb⟩; have n0_ := zaa.mk (Kd.zax (by (with_reducible repeat (first | apply Kd.zao | apply Kd.zar | apply Kd.zaB)); exact HO188.out) hb); have n1_ := zaa.mk (zai (by repeat (first | (with_reducible first | exact HB.out | apply zac | apply zab | apply zae) | exact HB.out)) hb); clear HO188; clear HB; have HO188 := n0_; have HB := n1_; clear n0_ n1_; (try clear hb); (try clear hb2); (try clear hk); (try clear hi)) | (go_at_call 17; (with_reducible refine (zaw.calls k _ _ l0 t198 t199 _ ?side1 ?side2 A23.out).mono ?_); (case side1 => repeat (first | exact (Kd.zan HR0.out HB.out) | (with_reducible refine Kd.zau ?_ _) | (with_reducible refine Kd.zav ?_ _) | (with_reducible refine Kd.zaC ?_))); (case side2 => exact HC0.out); rintro e w81 ⟨rfl, hb⟩; have n0_ := zaa.mk (Kd.zax (by (with_reducible repeat (first | apply Kd.zao | apply Kd.zar | apply Kd.zaB)); exact HO188.out) hb); have n1_ := zaa.mk (zai (by repeat (first | (with_reducible first | exact HB.out | apply zac | apply zab | apply zae) | exact HB.out)) hb); clear HO188; clear HB; have HO188 := n0_; have HB := n1_; clear n0_ n1_; (try clear hb); (try clear hb2); (try clear hk); (try clear hi)) | (go_at_call 8; (with_reducible refine (zaf.calls k _ _ l0 (rdOf ByteArray.empty t186 t189) (rdOf ByteArray.empty t186 t189) true _ ?side1 ?side2 A25.out).mono ?_); (case side1 => repeat (first | exact (Kd.zan HR0.out HB.out) | (with_reducible refine Kd.zau ?_ _) | (with_reducible refine Kd.zav ?_ _) | (with_reducible refine Kd.zaC ?_))); (case side2 => exact HC0.out); rintro e w82 ⟨rfl, hb⟩; have n0_ := zaa.mk (Kd.zax (by (with_reducible repeat (first | apply Kd.zao | apply Kd.zar | apply Kd.zaB)); exact HO188.out) hb); have n1_ := zaa.mk (zai (by repeat (first | (with_reducible first | exact HB.out | apply zac | apply zab | apply zae) | exact HB.out)) hb); clear HO188; clear HB; have HO188 := n0_; have HB := n1_; clear n0_ n1_; (try clear hb); (try clear hb2); (try clear hk); (try clear hi)))
            repeat (go_quiet (first | (go_at_call 3; (with_reducible refine (zad.calls k  t184 _ A5.out).mono ?_); rintro e w74 ⟨rfl, hb⟩; have n0_ := zaa.mk (zai (by repeat (first | (with_reducible first | exact HB.out | apply zac | apply zab | apply zae) | exact HB.out)) hb); clear HB; have HB := n0_; clear n0_; (try clear hb); (try clear hb2); (try clear hk); (try clear hi)) | (go_at_call 14; (with_reducible refine (zah.calls k _ _ l0 false _ ?side1 ?side2 A6.out).mono ?_); (case side1 => repeat (first | exact (Kd.zan HR0.out HB.out) | (with_reducible refine Kd.zau ?_ _) | (with_reducible refine Kd.zav ?_ _) | (with_reducible refine Kd.zaC ?_))); (case side2 => exact HC0.out); rintro e w75 ⟨rfl, hb⟩; have n0_ := zaa.mk (zai (by repeat (first | (with_reducible first | exact HB.out | apply zac | apply zab | apply zae) | exact HB.out)) hb); clear HB; have HB := n0_; clear n0_; (try clear hb); (try clear hb2); (try clear hk); (try clear hi)) | (go_at_call 15; (with_reducible refine (zat.calls k _ _ l0 t186 _ ?side1 ?side2 A10.out).mono ?_); (case side1 => repeat (first | exact (Kd.zan HR0.out HB.out) | (with_reducible refine Kd.zau ?_ _) | (with_reducible refine Kd.zav ?_ _) | (with_reducible refine Kd.zaC ?_))); (case side2 => exact HC0.out); rintro e w76 ⟨v187, rfl, ho0, hb⟩; have n0_ := zaa.mk (Kd.za3 ho0 (zaI (by repeat (first | (with_reducible first | exact HB.out | apply zac | apply zab | apply zae) | exact HB.out)))); have n1_ := zaa.mk (zai (by repeat (first | (with_reducible first | exact HB.out | apply zac | apply zab | apply zae) | exact HB.out)) hb); clear HB; have HO188 := n0_; have HB := n1_; clear n0_ n1_; (try clear hb); (try clear hb2); (try clear hk); (try clear hi); (try clear ho0); obtain ⟨Ao77, co77, eo77⟩ := Kd.zaW HO188.out; subst eo77) | (go_at_call 16; (with_reducible refine (zak.calls a1 (t186.length : Int) t189 _ A11.out).mono ?_); rintro e w' ⟨rfl, ⟨nd, rfl⟩⟩; (try first | exact ⟨rfl, _, World.drewN_drewN _ _ _⟩ | exact ⟨rfl, _, Eq.trans (World.drewN_drewN _ _ _) (congrArg (World.drewN _) (Nat.add_assoc _ _ _))⟩); have p190 : 0 ≤ (t189 : Int) := of_decide_eq_true (by first | (with_reducible assumption) | assumption); have q190 : t189 < (t186.length : Int) := of_decide_eq_true (by first | (with_reducible assumption) | assumption); obtain ⟨ad190, e190, hx190_0⟩ := Kd.zaN (Kd.zas HO188.out).2.2 t189 p190 q190; cases e190; replace p190 := eq_true p190; replace q190 := eq_true q190) | (go_at_call 16; (with_reducible refine (zak.calls a2 (t186.length : Int) t191 _ A14.out).mono ?_); rintro e w' ⟨rfl, ⟨nd, rfl⟩⟩; (try first | exact ⟨rfl, _, World.drewN_drewN _ _ _⟩ | exact ⟨rfl, _, Eq.trans (World.drewN_drewN _ _ _) (congrArg (World.drewN _) (Nat.add_assoc _ _ _))⟩); have p192 : 0 ≤ (t191 : Int) := of_decide_eq_true (by first | (with_reducible assumption) | assumption); have q192 : t191 < (t186.length : Int) := of_decide_eq_true (by first | (with_reducible assumption) | assumption); obtain ⟨ad192, e192, hx192_0⟩ := Kd.zaN (Kd.zas HO188.out).2.2 t191 p192 q192; obtain rfl : ad190 = ad192 := (by injection e192); replace p192 := eq_true p192; replace q192 := eq_true q192) | (go_at_call 16; (with_reducible refine (zak.calls a3 (t186.length : Int) t193 _ A17.out).mono ?_); rintro e w' ⟨rfl, ⟨nd, rfl⟩⟩; (try first | exact ⟨rfl, _, World.drewN_drewN _ _ _⟩ | exact ⟨rfl, _, Eq.trans (World.drewN_drewN _ _ _) (congrArg (World.drewN _) (Nat.add_assoc _ _ _))⟩); have p194 : 0 ≤ (t193 : Int) := of_decide_eq_true (by first | (with_reducible assumption) | assumption); have q194 : t193 < (t186.length : Int) := of_decide_eq_true (by first | (with_reducible assumption) | assumption); obtain ⟨ad194, e194, hx194_0⟩ := Kd.zaN (Kd.zas HO188.out).2.2 t193 p194 q194; obtain rfl : ad190 = ad194 := (by injection e194); replace p194 := eq_true p194; replace q194 := eq_true q194) | (go_at_call 8; (with_reducible refine (zaf.calls k _ _ l0 (rdOf ByteArray.empty t186 t189) (rdOf ByteArray.empty t186 t191) false _ ?side1 ?side2 A20.out).mono ?_); (case side1 => repeat (first | exact (Kd.zan HR0.out (by repeat (first | (with_reducible first | exact HB.out | apply zac | apply zab | apply zae) | exact HB.out))) | (with_reducible refine Kd.zau ?_ _) | (with_reducible refine Kd.zav ?_ _) | (with_reducible refine Kd.zaC ?_))); (case side2 => exact HC0.out); rintro e w78 ⟨rfl, hb⟩; have n0_ := zaa.mk (Kd.zax (by (with_reducible repeat (first | apply Kd.zao | apply Kd.zar | apply Kd.zaB)); exact HO188.out) hb); have n1_ := zaa.mk (zai (by repeat (first | (with_reducible first | exact HB.out | apply zac | apply zab | apply zae) | exact HB.out)) hb); clear HO188; clear HB; have HO188 := n0_; have HB := n1_; clear n0_ n1_; (try clear hb); (try clear hb2); (try clear hk); (try clear hi)) | (go_at_call 8; (with_reducible refine (zaf.calls k _ _ l0 (rdOf ByteArray.empty t186 t191) (rdOf ByteArray.empty t186 t189) t196 _ ?side1 ?side2 A21.out).mono ?_); (case side1 => repeat (first | exact (Kd.zan HR0.out HB.out) | (with_reducible refine Kd.zau ?_ _) | (with_reducible refine Kd.zav ?_ _) | (with_reducible refine Kd.zaC ?_))); (case side2 => exact HC0.out); rintro e w79 ⟨rfl, hb⟩; have n0_ := zaa.mk (Kd.zax (by (with_reducible repeat (first | apply Kd.zao | apply Kd.zar | apply Kd.zaB)); exact HO188.out) hb); have n1_ := zaa.mk (zai (by repeat (first | (with_reducible first | exact HB.out | apply zac | apply zab | apply zae) | exact HB.out)) hb); clear HO188; clear HB; have HO188 := n0_; have HB := n1_; clear n0_ n1_; (try clear hb); (try clear hb2); (try clear hk); (try clear hi)) | (go_at_call 8; (with_reducible refine (zaf.calls k _ _ l0 (rdOf ByteArray.empty t186 t191) (rdOf ByteArray.empty t186 t193) t197 _ ?side1 ?side2 A22.out).mono ?_); (case side1 => repeat (first | exact (Kd.zan HR0.out HB.out) | (with_reducible refine Kd.zau ?_ _) | (with_reducible refine Kd.zav ?_ _) | (with_reducible refine Kd.zaC ?_))); (case side2 => exact HC0.out); rintro e w80 ⟨rfl, hb⟩; have n0_ := zaa.mk (Kd.zax (by (with_reducible repeat (first | apply Kd.zao | apply Kd.zar | apply Kd.zaB)); exact HO188.out) hb); have n1_ := zaa.mk (zai (by repeat (first | (with_reducible first | exact HB.out | apply zac | apply zab | apply zae) | exact HB.out)) hb); clear HO188; clear HB; have HO188 := n0_; have HB := n1_; clear n0_ n1_; (try clear hb); (try clear hb2); (try clear hk); (try clear hi)) | (go_at_call 17; (with_reducible refine (zaw.calls k _ _ l0 t198 t199 _ ?side1 ?side2 A23.out).mono ?_); (case side1 => repeat (first | exact (Kd.zan HR0.out HB.out) | (with_reducible refine Kd.zau ?_ _) | (with_reducible refine Kd.zav ?_ _) | (with_reducible refine Kd.zaC ?_))); (case side2 => exact HC0.out); rintro e w81 ⟨rfl, hb⟩; have n0_ := zaa.mk (Kd.zax (by (with_reducible repeat (first | apply Kd.zao | apply Kd.zar | apply Kd.zaB)); exact HO188.out) hb); have n1_ := zaa.mk (zai (by repeat (first | (with_reducible first | exact HB.out | apply zac | apply zab | apply zae) | exact HB.out)) hb); clear HO188; clear HB; have HO188 := n0_; have HB := n1_; clear n0_ n1_; (try clear hb); (try clear hb2); (try clear hk); (try clear hi)) | (go_at_call 8; (with_reducible refine (zaf.calls k _ _ l0 (rdOf ByteArray.empty t186 t189) (rdOf ByteArray.empty t186 t189) true _ ?side1 ?side2 A25.out).mono ?_); (case side1 => repeat (first | exact (Kd.zan HR0.out HB.out) | (with_reducible refine Kd.zau ?_ _) | (with_reducible refine Kd.zav ?_ _) | (with_reducible refine Kd.zaC ?_))); (case side2 => exact HC0.out); rintro e w82 ⟨rfl, hb⟩; have n0_ := zaa.mk (Kd.zax (by (with_reducible repeat (first | apply Kd.zao | apply Kd.zar | apply Kd.zaB)); exact HO188.out) hb); have n1_ := zaa.mk (zai (by repeat (first | (with_reducible first | exact HB.out | apply zac | apply zab | apply zae) | exact HB.out)) hb); clear HO188; clear HB; have HO188 := n0_; have HB := n1_; clear n0_ n1_; (try clear hb); (try clear hb2); (try clear hk); (try clear hi))); try go_wp2_with (first | (go_at_call 3; (with_reducible refine (zad.calls k  t184 _ A5.out).mono ?_); rintro e w74 ⟨rfl, hb⟩; have n0_ := zaa.mk (zai (by repeat (first | (with_reducible first | exact HB.out | apply zac | apply zab | apply zae) | exact HB.out)) hb); clear HB; have HB := n0_; clear n0_; (try clear hb); (try clear hb2); (try clear hk); (try clear hi)) | (go_at_call 14; (with_reducible refine (zah.calls k _ _ l0 false _ ?side1 ?side2 A6.out).mono ?_); (case side1 => repeat (first | exact (Kd.zan HR0.out HB.out) | (with_reducible refine Kd.zau ?_ _) | (with_reducible refine Kd.zav ?_ _) | (with_reducible refine Kd.zaC ?_))); (case side2 => exact HC0.out); rintro e w75 ⟨rfl, hb⟩; have n0_ := zaa.mk (zai (by repeat (first | (with_reducible first | exact HB.out | apply zac | apply zab | apply zae) | exact HB.out)) hb); clear HB; have HB := n0_; clear n0_; (try clear hb); (try clear hb2); (try clear hk); (try clear hi)) | (go_at_call 15; (with_reducible refine (zat.calls k _ _ l0 t186 _ ?side1 ?side2 A10.out).mono ?_); (case side1 => repeat (first | exact (Kd.zan HR0.out HB.out) | (with_reducible refine Kd.zau ?_ _) | (with_reducible refine Kd.zav ?_ _) | (with_reducible refine Kd.zaC ?_))); (case side2 => exact HC0.out); rintro e w76 ⟨v187, rfl, ho0, hb⟩; have n0_ := zaa.mk (Kd.za3 ho0 (zaI (by repeat (first | (with_reducible first | exact HB.out | apply zac | apply zab | apply zae) | exact HB.out)))); have n1_ := zaa.mk (zai (by repeat (first | (with_reducible first | exact HB.out | apply zac | apply zab | apply zae) | exact HB.out)) hb); clear HB; have HO188 := n0_; have HB := n1_; clear n0_ n1_; (try clear hb); (try clear hb2); (try clear hk); (try clear hi); (try clear ho0); obtain ⟨Ao77, co77, eo77⟩ := Kd.zaW HO188.out; subst eo77) | (go_at_call 16; (with_reducible refine (zak.calls a1 (t186.length : Int) t189 _ A11.out).mono ?_); rintro e w' ⟨rfl, ⟨nd, rfl⟩⟩; (try first | exact ⟨rfl, _, World.drewN_drewN _ _ _⟩ | exact ⟨rfl, _, Eq.trans (World.drewN_drewN _ _ _) (congrArg (World.drewN _) (Nat.add_assoc _ _ _))⟩); have p190 : 0 ≤ (t189 : Int) := of_decide_eq_true (by first | (with_reducible assumption) | assumption); have q190 : t189 < (t186.length : Int) := of_decide_eq_true (by first | (with_reducible assumption) | assumption); obtain ⟨ad190, e190, hx190_0⟩ := Kd.zaN (Kd.zas HO188.out).2.2 t189 p190 q190; cases e190; replace p190 := eq_true p190; replace q190 := eq_true q190) | (go_at_call 16; (with_reducible refine (zak.calls a2 (t186.length : Int) t191 _ A14.out).mono ?_); rintro e w' ⟨rfl, ⟨nd, rfl⟩⟩; (try first | exact ⟨rfl, _, World.drewN_drewN _ _ _⟩ | exact ⟨rfl, _, Eq.trans (World.drewN_drewN _ _ _) (congrArg (World.drewN _) (Nat.add_assoc _ _ _))⟩); have p192 : 0 ≤ (t191 : Int) := of_decide_eq_true (by first | (with_reducible assumption) | assumption); have q192 : t191 < (t186.length : Int) := of_decide_eq_true (by first | (with_reducible assumption) | assumption); obtain ⟨ad192, e192, hx192_0⟩ := Kd.zaN (Kd.zas HO188.out).2.2 t191 p192 q192; obtain rfl : ad190 = ad192 := (by injection e192); replace p192 := eq_true p192; replace q192 := eq_true q192) | (go_at_call 16; (with_reducible refine (zak.calls a3 (t186.length : Int) t193 _ A17.out).mono ?_); rintro e w' ⟨rfl, ⟨nd, rfl⟩⟩; (try first | exact ⟨rfl, _, World.drewN_drewN _ _ _⟩ | exact ⟨rfl, _, Eq.trans (World.drewN_drewN _ _ _) (congrArg (World.drewN _) (Nat.add_assoc _ _ _))⟩); have p194 : 0 ≤ (t193 : Int) := of_decide_eq_true (by first | (with_reducible assumption) | assumption); have q194 : t193 < (t186.length : Int) := of_decide_eq_true (by first | (with_reducible assumption) | assumption); obtain ⟨ad194, e194, hx194_0⟩ := Kd.zaN (Kd.zas HO188.out).2.2 t193 p194 q194; obtain rfl : ad190 = ad194 := (by injection e194); replace p194 := eq_true p194; replace q194 := eq_true q194) | (go_at_call 8; (with_reducible refine (zaf.calls k _ _ l0 (rdOf ByteArray.empty t186 t189) (rdOf ByteArray.empty t186 t191) false _ ?side1 ?side2 A20.out).mono ?_); (case side1 => repeat (first | exact (Kd.zan HR0.out (by repeat (first | (with_reducible first | exact HB.out | apply zac | apply zab | apply zae) | exact HB.out))) | (with_reducible refine Kd.zau ?_ _) | (with_reducible refine Kd.zav ?_ _) | (with_reducible refine Kd.zaC ?_))); (case side2 => exact HC0.out); rintro e w78 ⟨rfl, hb⟩; have n0_ := zaa.mk (Kd.zax (by (with_reducible repeat (first | apply Kd.zao | apply Kd.zar | apply Kd.zaB)); exact HO188.out) hb); have n1_ := zaa.mk (zai (by repeat (first | (with_reducible first | exact HB.out | apply zac | apply zab | apply zae) | exact HB.out)) hb); clear HO188; clear HB; have HO188 := n0_; have HB := n1_; clear n0_ n1_; (try clear hb); (try clear hb2); (try clear hk); (try clear hi)) | (go_at_call 8; (with_reducible refine (zaf.calls k _ _ l0 (rdOf ByteArray.empty t186 t191) (rdOf ByteArray.empty t186 t189) t196 _ ?side1 ?side2 A21.out).mono ?_); (case side1 => repeat (first | exact (Kd.zan HR0.out HB.out) | (with_reducible refine Kd.zau ?_ _) | (with_reducible refine Kd.zav ?_ _) | (with_reducible refine Kd.zaC ?_))); (case side2 => exact HC0.out); rintro e w79 ⟨rfl, hb⟩; have n0_ := zaa.mk (Kd.zax (by (with_reducible repeat (first | apply Kd.zao | apply Kd.zar | apply Kd.zaB)); exact HO188.out) hb); have n1_ := zaa.mk (zai (by repeat (first | (with_reducible first | exact HB.out | apply zac | apply zab | apply zae) | exact HB.out)) hb); clear HO188; clear HB; have HO188 := n0_; have HB := n1_; clear n0_ n1_; (try clear hb); (try clear hb2); (try clear hk); (try clear hi)) | (go_at_call 8; (with_reducible refine (zaf.calls k _ _ l0 (rdOf ByteArray.empty t186 t191) (rdOf ByteArray.empty t186 t193) t197 _ ?side1 ?side2 A22.out).mono ?_); (case side1 => repeat (first | exact (Kd.zan HR0.out HB.out) | (with_reducible refine Kd.zau ?_ _) | (with_reducible refine Kd.zav ?_ _) | (with_reducible refine Kd.zaC ?_))); (case side2 => exact HC0.out); rintro e w80 ⟨rfl, hb⟩; have n0_ := zaa.mk (Kd.zax (by (with_reducible repeat (first | apply Kd.zao | apply Kd.zar | apply Kd.zaB)); exact HO188.out) hb); have n1_ := zaa.mk (zai (by repeat (first | (with_reducible first | exact HB.out | apply zac | apply zab | apply zae) | exact HB.out)) hb); clear HO188; clear HB; have HO188 := n0_; have HB := n1_; clear n0_ n1_; (try clear hb); (try clear hb2); (try clear hk); (try clear hi)) | (go_at_call 17; (with_reducible refine (zaw.calls k _ _ l0 t198 t199 _ ?side1 ?side2 A23.out).mono ?_); (case side1 => repeat (first | exact (Kd.zan HR0.out HB.out) | (with_reducible refine Kd.zau ?_ _) | (with_reducible refine Kd.zav ?_ _) | (with_reducible refine Kd.zaC ?_))); (case side2 => exact HC0.out); rintro e w81 ⟨rfl, hb⟩; have n0_ := zaa.mk (Kd.zax (by (with_reducible repeat (first | apply Kd.zao | apply Kd.zar | apply Kd.zaB)); exact HO188.out) hb); have n1_ := zaa.mk (zai (by repeat (first | (with_reducible first | exact HB.out | apply zac | apply zab | apply zae) | exact HB.out)) hb); clear HO188; clear HB; have HO188 := n0_; have HB := n1_; clear n0_ n1_; (try clear hb); (try clear hb2); (try clear hk); (try clear hi)) | (go_at_call 8; (with_reducible refine (zaf.calls k _ _ l0 (rdOf ByteArray.empty t186 t189) (rdOf ByteArray.empty t186 t189) true _ ?side1 ?side2 A25.out).mono ?_); (case side1 => repeat (first | exact (Kd.zan HR0.out HB.out) | (with_reducible refine Kd.zau ?_ _) | (with_reducible refine Kd.zav ?_ _) | (with_reducible refine Kd.zaC ?_))); (case side2 => exact HC0.out); rintro e w82 ⟨rfl, hb⟩; have n0_ := zaa.mk (Kd.zax (by (with_reducible repeat (first | apply Kd.zao | apply Kd.zar | apply Kd.zaB)); exact HO188.out) hb); have n1_ := zaa.mk (zai (by repeat (first | (with_reducible first | exact HB.out | apply zac | apply zab | apply zae) | exact HB.out)) hb); clear HO188; clear HB; have HO188 := n0_; have HB := n1_; clear n0_ n1_; (try clear hb); (try clear hb2); (try clear hk); (try clear hi))))
            go_ret
            exact ⟨by first | rfl | (simp [zaP, zaQ] <;> rfl) | (simp [*, zaP, zaQ] <;> rfl), by repeat (first | (with_reducible first | exact HB.out | apply zac | apply zab | apply zae) | exact HB.out)⟩
         ·
          replace c26 := Bool.eq_false_iff.mpr c26
          subst c26
          have H1 : (none) = some r := by rw [if_neg (show ¬ (false = true) by decide)] at H; exact H
          clear H
          have H := H1
          clear H1
          exact absurd H s9
        ·
         rw [if_neg c24] at H
         have c24b0 : (t198 == 0) = false := beq_eq_false_iff_ne.mpr c24
         have c24b1 : (t198 != 0) = true := bne_iff_ne.mpr c24
         by_cases c83 : t184 = true
         ·
          subst c83
          have H1 : (if t195 = true then (none) else (if t196 = true then (none) else ((zaf.f k l0 (rdOf ByteArray.empty t186 t189) (rdOf ByteArray.empty t186 t189)).bind fun t200 => (some (!t200))))) = some r := by rw [if_pos rfl] at H; exact H
          clear H
          have H := H1
          clear H1
          by_cases c84 : t195 = true
          ·
           subst c84
           have H1 : (none) = some r := by rw [if_pos rfl] at H; exact H
           clear H
           have H := H1
           clear H1
           exact absurd H s9
          ·
           replace c84 := Bool.eq_false_iff.mpr c84
           subst c84
           have H1 : (if t196 = true then (none) else ((zaf.f k l0 (rdOf ByteArray.empty t186 t189) (rdOf ByteArray.empty t186 t189)).bind fun t200 => (some (!t200)))) = some r := by rw [if_neg (show ¬ (false = true) by decide)] at H; exact H
           clear H
           have H := H1
           clear H1
           by_cases c85 : t196 = true
           ·
            subst c85
            have H1 : (none) = some r := by rw [if_pos rfl] at H; exact H
            clear H
            have H := H1
            clear H1
            exact absurd H s9
           ·
            replace c85 := Bool.eq_false_iff.mpr c85
            subst c85
            have H1 : ((zaf.f k l0 (rdOf ByteArray.empty t186 t189) (rdOf ByteArray.empty t186 t189)).bind fun t200 => (some (!t200))) = some r := by rw [if_neg (show ¬ (false = true) by decide)] at H; exact H
            clear H
            have H := H1
            clear H1
            replace H := Option.bind_eq_some_iff.mp H
            obtain ⟨t200, A860, H⟩ := H
            replace H : (some (!t200)) = some r := H
            have A86 := zaa.mk A860
            clear A860
            as_aux_lemma =>
             obtain rfl := Option.some.inj H
             go_enter Tryd.func4, Tryd.ntmps4
             go_wp2_with (first | (go_at_call 3; (with_reducible refine (zad.calls k  true _ A5.out).mono ?_); rintro e w87 ⟨rfl, hb⟩; have n0_ := zaa.mk (zai (by repeat (first | (with_reducible first | exact HB.out | apply zac | apply zab | apply zae) | exact HB.out)) hb); clear HB; have HB := n0_; clear n0_; (try clear hb); (try clear hb2); (try clear hk); (try clear hi)) | (go_at_call 14; (with_reducible refine (zah.calls k _ _ l0 false _ ?side1 ?side2 A6.out).mono ?_); (case side1 => repeat (first | exact (Kd.zan HR0.out HB.out) | (with_reducible refine Kd.zau ?_ _) | (with_reducible refine Kd.zav ?_ _) | (with_reducible refine Kd.zaC ?_))); (case side2 => exact HC0.out); rintro e w88 ⟨rfl, hb⟩; have n0_ := zaa.mk (zai (by repeat (first | (with_reducible first | exact HB.out | apply zac | apply zab | apply zae) | exact HB.out)) hb); clear HB; have HB := n0_; clear n0_; (try clear hb); (try clear hb2); (try clear hk); (try clear hi)) | (go_at_call 15; (with_reducible refine (zat.calls k _ _ l0 t186 _ ?side1 ?side2 A10.out).mono ?_); (case side1 => repeat (first | exact (Kd.zan HR0.out HB.out) | (with_reducible refine Kd.zau ?_ _) | (with_reducible refine Kd.zav ?_ _) | (with_reducible refine Kd.zaC ?_))); (case side2 => exact HC0.out); rintro e w89 ⟨v187, rfl, ho0, hb⟩; have n0_ := zaa.mk (Kd.za3 ho0 (zaI (by repeat (first | (with_reducible first | exact HB.out | apply zac | apply zab | apply zae) | exact HB.out)))); have n1_ := zaa.mk (zai (by repeat (first | (with_reducible first | exact HB.out | apply zac | apply zab | apply zae) | exact HB.out)) hb); clear HB; have HO188 := n0_; have HB := n1_; clear n0_ n1_; (try clear hb); (try clear hb2); (try clear hk); (try clear hi); (try clear ho0); obtain ⟨Ao90, co90, eo90⟩ := Kd.zaW HO188.out; subst eo90) | (go_at_call 16; (with_reducible refine (zak.calls a1 (t186.length : Int) t189 _ A11.out).mono ?_); rintro e w' ⟨rfl, ⟨nd, rfl⟩⟩; (try first | exact ⟨rfl, _, World.drewN_drewN _ _ _⟩ | exact ⟨rfl, _, Eq.trans (World.drewN_drewN _ _ _) (congrArg (World.drewN _) (Nat.add_assoc _ _ _))⟩); have p190 : 0 ≤ (t189 : Int) := of_decide_eq_true (by first | (with_reducible assumption) | assumption); have q190 : t189 < (t186.length : Int) := of_decide_eq_true (by first | (with_reducible assumption) | assumption); obtain ⟨ad190, e190, hx190_0⟩ := Kd.zaN (Kd.zas HO188.out).2.2 t189 p190 q190; cases e190; replace p190 := eq_true p190; replace q190 := eq_true q190) | (go_at_call 16; (with_reducible refine (zak.calls a2 (t186.length : Int) t191 _ A14.out).mono ?_); rintro e w' ⟨rfl, ⟨nd, rfl⟩⟩; (try first | exact ⟨rfl, _, World.drewN_drewN _ _ _⟩ | exact ⟨rfl, _, Eq.trans (World.drewN_drewN _ _ _) (congrArg (World.drewN _) (Nat.add_assoc _ _ _))⟩); have p192 : 0 ≤ (t191 : Int) := of_decide_eq_true (by first | (with_reducible assumption) | assumption); have q192 : t191 < (t186.length : Int) := of_decide_eq_true (by first | (with_reducible assumption) | assumption); obtain ⟨ad192, e192, hx192_0⟩ := Kd.zaN (Kd.zas HO188.out).2.2 t191 p192 q192; obtain rfl : ad190 = ad192 := (by injection e192); replace p192 := eq_true p192; replace q192 := eq_true q192) | (go_at_call 16; (with_reducible refine (zak.calls a3 (t186.length : Int) t193 _ A17.out).mono ?_); rintro e w' ⟨rfl, ⟨nd, rfl⟩⟩; (try first | exact ⟨rfl, _, World.drewN_drewN _ _ _⟩ | exact ⟨rfl, _, Eq.trans (World.drewN_drewN _ _ _) (congrArg (World.drewN _) (Nat.add_assoc _ _ _))⟩); have p194 : 0 ≤ (t193 : Int) := of_decide_eq_true (by first | (with_reducible assumption) | assumption); have q194 : t193 < (t186.length : Int) := of_decide_eq_true (by first | (with_reducible assumption) | assumption); obtain ⟨ad194, e194, hx194_0⟩ := Kd.zaN (Kd.zas HO188.out).2.2 t193 p194 q194; obtain rfl : ad190 = ad194 := (by injection e194); replace p194 := eq_true p194; replace q194 := eq_true q194) | (go_at_call 8; (with_reducible refine (zaf.calls k _ _ l0 (rdOf ByteArray.empty t186 t189) (rdOf ByteArray.empty t186 t191) false _ ?side1 ?side2 A20.out).mono ?_); (case side1 => repeat (first | exact (Kd.zan HR0.out (by repeat (first | (with_reducible first | exact HB.out | apply zac | apply zab | apply zae) | exact HB.out))) | (with_reducible refine Kd.zau ?_ _) | (with_reducible refine Kd.zav ?_ _) | (with_reducible refine Kd.zaC ?_))); (case side2 => exact HC0.out); rintro e w91 ⟨rfl, hb⟩; have n0_ := zaa.mk (Kd.zax (by (with_reducible repeat (first | apply Kd.zao | apply Kd.zar | apply Kd.zaB)); exact HO188.out) hb); have n1_ := zaa.mk (zai (by repeat (first | (with_reducible first | exact HB.out | apply zac | apply zab | apply zae) | exact HB.out)) hb); clear HO188; clear HB; have HO188 := n0_; have HB := n1_; clear n0_ n1_; (try clear hb); (try clear hb2); (try clear hk); (try clear hi)) | (go_at_call 8; (with_reducible refine (zaf.calls k _ _ l0 (rdOf ByteArray.empty t186 t191) (rdOf ByteArray.empty t186 t189) false _ ?side1 ?side2 A21.out).mono ?_); (case side1 => repeat (first | exact (Kd.zan HR0.out HB.out) | (with_reducible refine Kd.zau ?_ _) | (with_reducible refine Kd.zav ?_ _) | (with_reducible refine Kd.zaC ?_))); (case side2 => exact HC0.out); rintro e w92 ⟨rfl, hb⟩; have n0_ := zaa.mk (Kd.zax (by (with_reducible repeat (first | apply Kd.zao | apply Kd.zar | apply Kd.zaB)); exact HO188.out) hb); have n1_ := zaa.mk (zai (by repeat (first | (with_reducible first | exact HB.out | apply zac | apply zab | apply zae) | exact HB.out)) hb); clear HO188; clear HB; have HO188 := n0_; have HB := n1_; clear n0_ n1_; (try clear hb); (try clear hb2); (try clear hk); (try clear hi)) | (go_at_call 8; (with_reducible refine (zaf.calls k _ _ l0 (rdOf ByteArray.empty t186 t191) (rdOf ByteArray.empty t186 t193) t197 _ ?side1 ?side2 A22.out).mono ?_); (case side1 => repeat (first | exact (Kd.zan HR0.out HB.out) | (with_reducible refine Kd.zau ?_ _) | (with_reducible refine Kd.zav ?_ _) | (with_reducible refine Kd.zaC ?_))); (case side2 => exact HC0.out); rintro e w93 ⟨rfl, hb⟩; have n0_ := zaa.mk (Kd.zax (by (with_reducible repeat (first | apply Kd.zao | apply Kd.zar | apply Kd.zaB)); exact HO188.out) hb); have n1_ := zaa.mk (zai (by repeat (first | (with_reducible first | exact HB.out | apply zac | apply zab | apply zae) | exact HB.out)) hb); clear HO188; clear HB; have HO188 := n0_; have HB := n1_; clear n0_ n1_; (try clear hb); (try clear hb2); (try clear hk); (try clear hi)) | (go_at_call 17; (with_reducible refine (zaw.calls k _ _ l0 t198 t199 _ ?side1 ?side2 A23.out).mono ?_); (case side1 => repeat (first | exact (Kd.zan HR0.out HB.out) | (with_reducible refine Kd.zau ?_ _) | (with_reducible refine Kd.zav ?_ _) | (with_reducible refine Kd.zaC ?_))); (case side2 => exact HC0.out); rintro e w94 ⟨rfl, hb⟩; have n0_ := zaa.mk (Kd.zax (by (with_reducible repeat (first | apply Kd.zao | apply Kd.zar | apply Kd.zaB)); exact HO188.out) hb); have n1_ := zaa.mk (zai (by repeat (first | (with_reducible first | exact HB.out | apply zac | apply zab | apply zae) | exact HB.out)) hb); clear HO188; clear HB; have HO188 := n0_; have HB := n1_; clear n0_ n1_; (try clear hb); (try clear hb2); (try clear hk); (try clear hi)) | (go_at_call 8; (with_reducible refine (zaf.calls k _ _ l0 (rdOf ByteArray.empty t186 t189) (rdOf ByteArray.empty t186 t189) t200 _ ?side1 ?side2 A86.out).mono ?_); (case side1 => repeat (first | exact (Kd.zan HR0.out HB.out) | (with_reducible refine Kd.zau ?_ _) | (with_reducible refine Kd.zav ?_ _) | (with_reducible refine Kd.zaC ?_))); (case side2 => exact HC0.out); rintro e w95 ⟨rfl, hb⟩; have n0_ := zaa.mk (Kd.zax (by (with_reducible repeat (first | apply Kd.zao | apply Kd.zar | apply Kd.zaB)); exact HO188.out) hb); have n1_ := zaa.mk (zai (by repeat (first | (with_reducible first | exact HB.out | apply zac | apply zab | apply zae) | exact HB.out)) hb); clear HO188; clear HB; have HO188 := n0_; have HB := n1_; clear n0_ n1_; (try clear hb); (try clear hb2); (try clear hk); (try clear hi)))
             repeat (go_quiet (first | (go_at_call 3; (with_reducible refine (zad.calls k  true _ A5.out).mono ?_); rintro e w87 ⟨rfl, hb⟩; have n0_ := zaa.mk (zai (by repeat (first | (with_reducible first | exact HB.out | apply zac | apply zab | apply zae) | exact HB.out)) hb); clear HB; have HB := n0_; clear n0_; (try clear hb); (try clear hb2); (try clear hk); (try clear hi)) | (go_at_call 14; (with_reducible refine (zah.calls k _ _ l0 false _ ?side1 ?side2 A6.out).mono ?_); (case side1 => repeat (first | exact (Kd.zan HR0.out HB.out) | (with_reducible refine Kd.zau ?_ _) | (with_reducible refine Kd.zav ?_ _) | (with_reducible refine Kd.zaC ?_))); (case side2 => exact HC0.out); rintro e w88 ⟨rfl, hb⟩; have n0_ := zaa.mk (zai (by repeat (first | (with_reducible first | exact HB.out | apply zac | apply zab | apply zae) | exact HB.out)) hb); clear HB; have HB := n0_; clear n0_; (try clear hb); (try clear hb2); (try clear hk); (try clear hi)) | (go_at_call 15; (with_reducible refine (zat.calls k _ _ l0 t186 _ ?side1 ?side2 A10.out).mono ?_); (case side1 => repeat (first | exact (Kd.zan HR0.out HB.out) | (with_reducible refine Kd.zau ?_ _) | (with_reducible refine Kd.zav ?_ _) | (with_reducible refine Kd.zaC ?_))); (case side2 => exact HC0.out); rintro e w89 ⟨v187, rfl, ho0, hb⟩; have n0_ := zaa.mk (Kd.za3 ho0 (zaI (by repeat (first | (with_reducible first | exact HB.out | apply zac | apply zab | apply zae) | exact HB.out)))); have n1_ := zaa.mk (zai (by repeat (first | (with_reducible first | exact HB.out | apply zac | apply zab | apply zae) | exact HB.out)) hb); clear HB; have HO188 := n0_; have HB := n1_; clear n0_ n1_; (try clear hb); (try clear hb2); (try clear hk); (try clear hi); (try clear ho0); obtain ⟨Ao90, co90, eo90⟩ := Kd.zaW HO188.out; subst eo90) | (go_at_call 16; (with_reducible refine (zak.calls a1 (t186.length : Int) t189 _ A11.out).mono ?_); rintro e w' ⟨rfl, ⟨nd, rfl⟩⟩; (try first | exact ⟨rfl, _, World.drewN_drewN _ _ _⟩ | exact ⟨rfl, _, Eq.trans (World.drewN_drewN _ _ _) (congrArg (World.drewN _) (Nat.add_assoc _ _ _))⟩); have p190 : 0 ≤ (t189 : Int) := of_decide_eq_true (by first | (with_reducible assumption) | assumption); have q190 : t189 < (t186.length : Int) := of_decide_eq_true (by first | (with_reducible assumption) | assumption); obtain ⟨ad190, e190, hx190_0⟩ := Kd.zaN (Kd.zas HO188.out).2.2 t189 p190 q190; cases e190; replace p190 := eq_true p190; replace q190 := eq_true q190) | (go_at_call 16; (with_reducible refine (zak.calls a2 (t186.length : Int) t191 _ A14.out).mono ?_); rintro e w' ⟨rfl, ⟨nd, rfl⟩⟩; (try first | exact ⟨rfl, _, World.drewN_drewN _ _ _⟩ | exact ⟨rfl, _, Eq.trans (World.drewN_drewN _ _ _) (congrArg (World.drewN _) (Nat.add_assoc _ _ _))⟩); have p192 : 0 ≤ (t191 : Int) := of_decide_eq_true (by first | (with_reducible assumption) | assumption); have q192 : t191 < (t186.length : Int) := of_decide_eq_true (by first | (with_reducible assumption) | assumption); obtain ⟨ad192, e192, hx192_0⟩ := Kd.zaN (Kd.zas HO188.out).2.2 t191 p192 q192; obtain rfl : ad190 = ad192 := (by injection e192); replace p192 := eq_true p192; replace q192 := eq_true q192) | (go_at_call 16; (with_reducible refine (zak.calls a3 (t186.length : Int) t193 _ A17.out).mono ?_); rintro e w' ⟨rfl, ⟨nd, rfl⟩⟩; (try first | exact ⟨rfl, _, World.drewN_drewN _ _ _⟩ | exact ⟨rfl, _, Eq.trans (World.drewN_drewN _ _ _) (congrArg (World.drewN _) (Nat.add_assoc _ _ _))⟩); have p194 : 0 ≤ (t193 : Int) := of_decide_eq_true (by first | (with_reducible assumption) | assumption); have q194 : t193 < (t186.length : Int) := of_decide_eq_true (by first | (with_reducible assumption) | assumption); obtain ⟨ad194, e194, hx194_0⟩ := Kd.zaN (Kd.zas HO188.out).2.2 t193 p194 q194; obtain rfl : ad190 = ad194 := (by injection e194); replace p194 := eq_true p194; replace q194 := eq_true q194) | (go_at_call 8; (with_reducible refine (zaf.calls k _ _ l0 (rdOf ByteArray.empty t186 t189) (rdOf ByteArray.empty t186 t191) false _ ?side1 ?side2 A20.out).mono ?_); (case side1 => repeat (first | exact (Kd.zan HR0.out (by repeat (first | (with_reducible first | exact HB.out | apply zac | apply zab | apply zae) | exact HB.out))) | (with_reducible refine Kd.zau ?_ _) | (with_reducible refine Kd.zav ?_ _) | (with_reducible refine Kd.zaC ?_))); (case side2 => exact HC0.out); rintro e w91 ⟨rfl, hb⟩; have n0_ := zaa.mk (Kd.zax (by (with_reducible repeat (first | apply Kd.zao | apply Kd.zar | apply Kd.zaB)); exact HO188.out) hb); have n1_ := zaa.mk (zai (by repeat (first | (with_reducible first | exact HB.out | apply zac | apply zab | apply zae) | exact HB.out)) hb); clear HO188; clear HB; have HO188 := n0_; have HB := n1_; clear n0_ n1_; (try clear hb); (try clear hb2); (try clear hk); (try clear hi)) | (go_at_call 8; (with_reducible refine (zaf.calls k _ _ l0 (rdOf ByteArray.empty t186 t191) (rdOf ByteArray.empty t186 t189) false _ ?side1 ?side2 A21.out).mono ?_); (case side1 => repeat (first | exact (Kd.zan HR0.out HB.out) | (with_reducible refine Kd.zau ?_ _) | (with_reducible refine Kd.zav ?_ _) | (with_reducible refine Kd.zaC ?_))); (case side2 => exact HC0.out); rintro e w92 ⟨rfl, hb⟩; have n0_ := zaa.mk (Kd.zax (by (with_reducible repeat (first | apply Kd.zao | apply Kd.zar | apply Kd.zaB)); exact HO188.out) hb); have n1_ := zaa.mk (zai (by repeat (first | (with_reducible first | exact HB.out | apply zac | apply zab | apply zae) | exact HB.out)) hb); clear HO188; clear HB; have HO188 := n0_; have HB := n1_; clear n0_ n1_; (try clear hb); (try clear hb2); (try clear hk); (try clear hi)) | (go_at_call 8; (with_reducible refine (zaf.calls k _ _ l0 (rdOf ByteArray.empty t186 t191) (rdOf ByteArray.empty t186 t193) t197 _ ?side1 ?side2 A22.out).mono ?_); (case side1 => repeat (first | exact (Kd.zan HR0.out HB.out) | (with_reducible refine Kd.zau ?_ _) | (with_reducible refine Kd.zav ?_ _) | (with_reducible refine Kd.zaC ?_))); (case side2 => exact HC0.out); rintro e w93 ⟨rfl, hb⟩; have n0_ := zaa.mk (Kd.zax (by (with_reducible repeat (first | apply Kd.zao | apply Kd.zar | apply Kd.zaB)); exact HO188.out) hb); have n1_ := zaa.mk (zai (by repeat (first | (with_reducible first | exact HB.out | apply zac | apply zab | apply zae) | exact HB.out)) hb); clear HO188; clear HB; have HO188 := n0_; have HB := n1_; clear n0_ n1_; (try clear hb); (try clear hb2); (try clear hk); (try clear hi)) | (go_at_call 17; (with_reducible refine (zaw.calls k _ _ l0 t198 t199 _ ?side1 ?side2 A23.out).mono ?_); (case side1 => repeat (first | exact (Kd.zan HR0.out HB.out) | (with_reducible refine Kd.zau ?_ _) | (with_reducible refine Kd.zav ?_ _) | (with_reducible refine Kd.zaC ?_))); (case side2 => exact HC0.out); rintro e w94 ⟨rfl, hb⟩; have n0_ := zaa.mk (Kd.zax (by (with_reducible repeat (first | apply Kd.zao | apply Kd.zar | apply Kd.zaB)); exact HO188.out) hb); have n1_ := zaa.mk (zai (by repeat (first | (with_reducible first | exact HB.out | apply zac | apply zab | apply zae) | exact HB.out)) hb); clear HO188; clear HB; have HO188 := n0_; have HB := n1_; clear n0_ n1_; (try clear hb); (try clear hb2); (try clear hk); (try clear hi)) | (go_at_call 8; (with_reducible refine (zaf.calls k _ _ l0 (rdOf ByteArray.empty t186 t189) (rdOf ByteArray.empty t186 t189) t200 _ ?side1 ?side2 A86.out).mono ?_); (case side1 => repeat (first | exact (Kd.zan HR0.out HB.out) | (with_reducible refine Kd.zau ?_ _) | (with_reducible refine Kd.zav ?_ _) | (with_reducible refine Kd.zaC ?_))); (case side2 => exact HC0.out); rintro e w95 ⟨rfl, hb⟩; have n0_ := zaa.mk (Kd.zax (by (with_reducible repeat (first | apply Kd.zao | apply Kd.zar | apply Kd.zaB)); exact HO188.out) hb); have n1_ := zaa.mk (zai (by repeat (first | (with_reducible first | exact HB.out | apply zac | apply zab | apply zae) | exact HB.out)) hb); clear HO188; clear HB; have HO188 := n0_; have HB := n1_; clear n0_ n1_; (try clear hb); (try clear hb2); (try clear hk); (try clear hi))); try go_wp2_with (first | (go_at_call 3; (with_reducible refine (zad.calls k  true _ A5.out).mono ?_); rintro e w87 ⟨rfl, hb⟩; have n0_ := zaa.mk (zai (by repeat (first | (with_reducible first | exact HB.out | apply zac | apply zab | apply zae) | exact HB.out)) hb); clear HB; have HB := n0_; clear n0_; (try clear hb); (try clear hb2); (try clear hk); (try clear hi)) | (go_at_call 14; (with_reducible refine (zah.calls k _ _ l0 false _ ?side1 ?side2 A6.out).mono ?_); (case side1 => repeat (first | exact (Kd.zan HR0.out HB.out) | (with_reducible refine Kd.zau ?_ _) | (with_reducible refine Kd.zav ?_ _) | (with_reducible refine Kd.zaC ?_))); (case side2 => exact HC0.out); rintro e w88 ⟨rfl, hb⟩; have n0_ := zaa.mk (zai (by repeat (first | (with_reducible first | exact HB.out | apply zac | apply zab | apply zae) | exact HB.out)) hb); clear HB; have HB := n0_; clear n0_; (try clear hb); (try clear hb2); (try clear hk); (try clear hi)) | (go_at_call 15; (with_reducible refine (zat.calls k _ _ l0 t186 _ ?side1 ?side2 A10.out).mono ?_); (case side1 => repeat (first | exact (Kd.zan HR0.out HB.out) | (with_reducible refine Kd.zau ?_ _) | (with_reducible refine Kd.zav ?_ _) | (with_reducible refine Kd.zaC ?_))); (case side2 => exact HC0.out); rintro e w89 ⟨v187, rfl, ho0, hb⟩; have n0_ := zaa.mk (Kd.za3 ho0 (zaI (by repeat (first | (with_reducible first | exact HB.out | apply zac | apply zab | apply zae) | exact HB.out)))); have n1_ := zaa.mk (zai (by repeat (first | (with_reducible first | exact HB.out | apply zac | apply zab | apply zae) | exact HB.out)) hb); clear HB; have HO188 := n0_; have HB := n1_; clear n0_ n1_; (try clear hb); (try clear hb2); (try clear hk); (try clear hi); (try clear ho0); obtain ⟨Ao90, co90, eo90⟩ := Kd.zaW HO188.out; subst eo90) | (go_at_call 16; (with_reducible refine (zak.calls a1 (t186.length : Int) t189 _ A11.out).mono ?_); rintro e w' ⟨rfl, ⟨nd, rfl⟩⟩; (try first | exact ⟨rfl, _, World.drewN_drewN _ _ _⟩ | exact ⟨rfl, _, Eq.trans (World.drewN_drewN _ _ _) (congrArg (World.drewN _) (Nat.add_assoc _ _ _))⟩); have p190 : 0 ≤ (t189 : Int) := of_decide_eq_true (by first | (with_reducible assumption) | assumption); have q190 : t189 < (t186.length : Int) := of_decide_eq_true (by first | (with_reducible assumption) | assumption); obtain ⟨ad190, e190, hx190_0⟩ := Kd.zaN (Kd.zas HO188.out).2.2 t189 p190 q190; cases e190; replace p190 := eq_true p190; replace q190 := eq_true q190) | (go_at_call 16; (with_reducible refine (zak.calls a2 (t186.length : Int) t191 _ A14.out).mono ?_); rintro e w' ⟨rfl, ⟨nd, rfl⟩⟩; (try first | exact ⟨rfl, _, World.drewN_drewN _ _ _⟩ | exact ⟨rfl, _, Eq.trans (World.drewN_drewN _ _ _) (congrArg (World.drewN _) (Nat.add_assoc _ _ _))⟩); have p192 : 0 ≤ (t191 : Int) := of_decide_eq_true (by first | (with_reducible assumption) | assumption); have q192 : t191 < (t186.length : Int) := of_decide_eq_true (by first | (with_reducible assumption) | assumption); obtain ⟨ad192, e192, hx192_0⟩ := Kd.zaN (Kd.zas HO188.out).2.2 t191 p192 q192; obtain rfl : ad190 = ad192 := (by injection e192); replace p192 := eq_true p192; replace q192 := eq_true q192) | (go_at_call 16; (with_reducible refine (zak.calls a3 (t186.length : Int) t193 _ A17.out).mono ?_); rintro e w' ⟨rfl, ⟨nd, rfl⟩⟩; (try first | exact ⟨rfl, _, World.drewN_drewN _ _ _⟩ | exact ⟨rfl, _, Eq.trans (World.drewN_drewN _ _ _) (congrArg (World.drewN _) (Nat.add_assoc _ _ _))⟩); have p194 : 0 ≤ (t193 : Int) := of_decide_eq_true (by first | (with_reducible assumption) | assumption); have q194 : t193 < (t186.length : Int) := of_decide_eq_true (by first | (with_reducible assumption) | assumption); obtain ⟨ad194, e194, hx194_0⟩ := Kd.zaN (Kd.zas HO188.out).2.2 t193 p194 q194; obtain rfl : ad190 = ad194 := (by injection e194); replace p194 := eq_true p194; replace q194 := eq_true q194) | (go_at_call 8; (with_reducible refine (zaf.calls k _ _ l0 (rdOf ByteArray.empty t186 t189) (rdOf ByteArray.empty t186 t191) false _ ?side1 ?side2 A20.out).mono ?_); (case side1 => repeat (first | exact (Kd.zan HR0.out (by repeat (first | (with_reducible first | exact HB.out | apply zac | apply zab | apply zae) | exact HB.out))) | (with_reducible refine Kd.zau ?_ _) | (with_reducible refine Kd.zav ?_ _) | (with_reducible refine Kd.zaC ?_))); (case side2 => exact HC0.out); rintro e w91 ⟨rfl, hb⟩; have n0_ := zaa.mk (Kd.zax (by (with_reducible repeat (first | apply Kd.zao | apply Kd.zar | apply Kd.zaB)); exact HO188.out) hb); have n1_ := zaa.mk (zai (by repeat (first | (with_reducible first | exact HB.out | apply zac | apply zab | apply zae) | exact HB.out)) hb); clear HO188; clear HB; have HO188 := n0_; have HB := n1_; clear n0_ n1_; (try clear hb); (try clear hb2); (try clear hk); (try clear hi)) | (go_at_call 8; (with_reducible refine (zaf.calls k _ _ l0 (rdOf ByteArray.empty t186 t191) (rdOf ByteArray.empty t186 t189) false _ ?side1 ?side2 A21.out).mono ?_); (case side1 => repeat (first | exact (Kd.zan HR0.out HB.out) | (with_reducible refine Kd.zau ?_ _) | (with_reducible refine Kd.zav ?_ _) | (with_reducible refine Kd.zaC ?_))); (case side2 => exact HC0.out); rintro e w92 ⟨rfl, hb⟩; have n0_ := zaa.mk (Kd.zax (by (with_reducible repeat (first | apply Kd.zao | apply Kd.zar | apply Kd.zaB)); exact HO188.out) hb); have n1_ := zaa.mk (zai (by repeat (first | (with_reducible first | exact HB.out | apply zac | apply zab | apply zae) | exact HB.out)) hb); clear HO188; clear HB; have HO188 := n0_; have HB := n1_; clear n0_ n1_; (try clear hb); (try clear hb2); (try clear hk); (try clear hi)) | (go_at_call 8; (with_reducible refine (zaf.calls k _ _ l0 (rdOf ByteArray.empty t186 t191) (rdOf ByteArray.empty t186 t193) t197 _ ?side1 ?side2 A22.out).mono ?_); (case side1 => repeat (first | exact (Kd.zan HR0.out HB.out) | (with_reducible refine Kd.zau ?_ _) | (with_reducible refine Kd.zav ?_ _) | (with_reducible refine Kd.zaC ?_))); (case side2 => exact HC0.out); rintro e w93 ⟨rfl, hb⟩; have n0_ := zaa.mk (Kd.zax (by (with_reducible repeat (first | apply Kd.zao | apply Kd.zar | apply Kd.zaB)); exact HO188.out) hb); have n1_ := zaa.mk (zai (by repeat (first | (with_reducible first | exact HB.out | apply zac | apply zab | apply zae) | exact HB.out)) hb); clear HO188; clear HB; have HO188 := n0_; have HB := n1_; clear n0_ n1_; (try clear hb); (try clear hb2); (try clear hk); (try clear hi)) | (go_at_call 17; (with_reducible refine (zaw.calls k _ _ l0 t198 t199 _ ?side1 ?side2 A23.out).mono ?_); (case side1 => repeat (first | exact (Kd.zan HR0.out HB.out) | (with_reducible refine Kd.zau ?_ _) | (with_reducible refine Kd.zav ?_ _) | (with_reducible refine Kd.zaC ?_))); (case side2 => exact HC0.out); rintro e w94 ⟨rfl, hb⟩; have n0_ := zaa.mk (Kd.zax (by (with_reducible repeat (first | apply Kd.zao | apply Kd.zar | apply Kd.zaB)); exact HO188.out) hb); have n1_ := zaa.mk (zai (by repeat (first | (with_reducible first | exact HB.out | apply zac | apply zab | apply zae) | exact HB.out)) hb); clear HO188; clear HB; have HO188 := n0_; have HB := n1_; clear n0_ n1_; (try clear hb); (try clear hb2); (try clear hk); (try clear hi)) | (go_at_call 8; (with_reducible refine (zaf.calls k _ _ l0 (rdOf ByteArray.empty t186 t189) (rdOf ByteArray.empty t186 t189) t200 _ ?side1 ?side2 A86.out).mono ?_); (case side1 => repeat (first | exact (Kd.zan HR0.out HB.out) | (with_reducible refine Kd.zau ?_ _) | (with_reducible refine Kd.zav ?_ _) | (with_reducible refine Kd.zaC ?_))); (case side2 => exact HC0.out); rintro e w95 ⟨rfl, hb⟩; have n0_ := zaa.mk (Kd.zax (by (with_reducible repeat (first | apply Kd.zao | apply Kd.zar | apply Kd.zaB)); exact HO188.out) hb); have n1_ := zaa.mk (zai (by repeat (first | (with_reducible first | exact HB.out | apply zac | apply zab | apply zae) | exact HB.out)) hb); clear HO188; clear HB; have HO188 := n0_; have HB := n1_; clear n0_ n1_; (try clear hb); (try clear hb2); (try clear hk); (try clear hi))))
             go_ret
             exact ⟨by first | rfl | (simp [zaP, zaQ] <;> rfl) | (simp [*, zaP, zaQ] <;> rfl), by repeat (first | (with_reducible first | exact HB.out | apply zac | apply zab | apply zae) | exact HB.out)⟩
         ·
          replace c83 := Bool.eq_false_iff.mpr c83
          subst c83
          have H1 : (none) = some r := by rw [if_neg (show ¬ (false = true) by decide)] at H; exact H
          clear H
          have H := H1
          clear H1
          exact absurd H s9
       ·
        rw [if_neg c19] at H
        exact absurd H s9
      ·
       rw [if_neg c18] at H
       exact absurd H s9
     ·
      rw [if_neg c16] at H
      exact absurd H s9
    ·
     rw [if_neg c15] at H
     exact absurd H s9
   ·
    rw [if_neg c13] at H
    exact absurd H s9
  ·
   rw [if_neg c12] at H
   exact absurd H s9
end Go.Proofs.YtofoegknealilaaDoor.PAll
end

section
namespace Go.Proofs.YtofoegknealilaaDoor.PAll
open Go.RowKit Go.Proofs.YtofoegknealilaaDoorW.PrintWords Go.Proofs.YtofoegknealilaaDoorW.PrintLast Go.Proofs.YtofoegknealilaaDoorOpen
def chaperonlaw06_SubtypeOrder.Pure : Prop := ∀ (l0 : List (S44)) (a1 : Int) (a2 : Int) (a3 : Int), l0.length ≤ maxLen → (∀ x ∈ l0, wf44 x) → (Lit.int .i64 a1).wf = true → (Lit.int .i64 a2).wf = true → (Lit.int .i64 a3).wf = true → ∃ k, chaperonlaw06_SubtypeOrder.f k l0 a1 a2 a3 = some true
end Go.Proofs.YtofoegknealilaaDoor.PAll
end
