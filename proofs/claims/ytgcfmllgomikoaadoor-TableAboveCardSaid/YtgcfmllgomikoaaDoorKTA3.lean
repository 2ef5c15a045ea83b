/- Parts of the proof of one statement, packed: what the program's functions compute. No conditions. -/
import Derived.Test.YtgcfmllgomikoaaDoorKTA1
import Derived.Test.YtgcfmllgomikoaaDoorKTA2
import Derived.Test.YtgcfmllgomikoaaDoorTie
import Derived.Test.YtgcfmllgomikoaaDoorCards
import Derived.ProofKit
import Derived.OpenShut
import Derived.ShutString
import Derived.LaidMore
import Derived.Lay
import Derived.LaidSub
import Derived.SevenTiedAt
import Derived.Stop.Joined
import Derived.Lib.LaidTab
import Derived.SizedLaws
import Derived.Test.YtgcfmllgomikoaaDoorKTA0
import Derived.Deep.Slices
import Derived.ChangeArms
import Derived.WideShapes
import Derived.Carry
set_option linter.unusedSimpArgs false
set_option linter.unusedVariables false
set_option maxRecDepth 100000
set_option maxHeartbeats 8000000
section
namespace Go.Proofs.YtgcfmllgomikoaaDoor.PAll
open Go.RowKit Go.Proofs.YtgcfmllgomikoaaDoorW.PrintWords Go.Proofs.YtgcfmllgomikoaaDoorW.PrintLast Go.Proofs.YtgcfmllgomikoaaDoorW.za2
attribute [local go_sem] zbj zbi zbw zbx za7 za8 zbh zbg
mutual
def zaq.l0 : Nat → List (S45) → ByteArray → List (S42) → List (S35) → Int → Int → Option ((List (S42)))
 | 0, _, _, _, _, _, _ => none
 | k + 1, x0, x1, x4, x11, x12, x13 => if x13 < x12 then (if 0 ≤ x13 then (if x13 < (x11.length : Int) then (if x4.length < 5864062014805 then (zaq.l0 k x0 x1 (x4 ++ [(⟨(zaE x11 x13).f0, (-1)⟩ : S42)]) x11 x12 (wrap64 (x13 + 1))) else (none)) else (none)) else (none)) else ((zaC.f x0 x1).bind fun t132 => (zaq.l1 k x4 t132 (t132.length : Int) 0))
def zaq.l1 : Nat → List (S42) → List (S26) → Int → Int → Option ((List (S42)))
 | 0, _, _, _, _ => none
 | k + 1, x4, x26, x27, x28 => if x28 < x27 then (if 0 ≤ x28 then (if x28 < (x26.length : Int) then (if x4.length < 5864062014805 then (zaq.l1 k (x4 ++ [(⟨(zaF x26 x28).f0, (((zaF x26 x28).f1).length : Int)⟩ : S42)]) x26 x27 (wrap64 (x28 + 1))) else (none)) else (none)) else (none)) else (some x4)
end
def zaq.f (k : Nat) (l0 : List (S45)) (a1 : ByteArray) : Option ((List (S42))) := (zbl.f l0 a1).bind fun t124 => (zaq.l0 k l0 a1 ([] : List (S42)) t124 (t124.length : Int) 0)
theorem zaq.zbL : ∀ k, (∀ y0 y1 y2 y3 y4 y5, LeO (zaq.l0 k y0 y1 y2 y3 y4 y5) (zaq.l0 (k + 1) y0 y1 y2 y3 y4 y5)) ∧ (∀ y0 y1 y2 y3, LeO (zaq.l1 k y0 y1 y2 y3) (zaq.l1 (k + 1) y0 y1 y2 y3))
 | 0 => ⟨fun _ _ _ _ _ _ r h => by simp [zaq.l0] at h, fun _ _ _ _ r h => by simp [zaq.l1] at h⟩
 | k + 1 => by
  obtain ⟨ih0, ih1⟩ := zaq.zbL k
  refine ⟨?_, ?_⟩
  ·
   intro y0 y1 y2 y3 y4 y5
   unfold zaq.l0
   repeat' first
   | (with_reducible exact ih0 _ _ _ _ _ _)
   | (with_reducible exact ih1 _ _ _ _)
   | (with_reducible exact LeO.refl _)
   | (with_reducible exact LeO.none _)
   | (with_reducible refine LeO.ite ?_ ?_)
   | (with_reducible refine LeO.bind ?_ (fun _ => ?_))
   | exact ih0 _ _ _ _ _ _
   | exact ih1 _ _ _ _
   | exact LeO.none _
   | refine LeO.ite ?_ ?_
   | refine LeO.bind ?_ (fun _ => ?_)
  ·
   intro y0 y1 y2 y3
   unfold zaq.l1
   repeat' first
   | (with_reducible exact ih0 _ _ _ _ _ _)
   | (with_reducible exact ih1 _ _ _ _)
   | (with_reducible exact LeO.refl _)
   | (with_reducible exact LeO.none _)
   | (with_reducible refine LeO.ite ?_ ?_)
   | (with_reducible refine LeO.bind ?_ (fun _ => ?_))
   | exact ih0 _ _ _ _ _ _
   | exact ih1 _ _ _ _
   | exact LeO.none _
   | refine LeO.ite ?_ ?_
   | refine LeO.bind ?_ (fun _ => ?_)
theorem zaq.mono : ∀ a0 a1 k, LeO (zaq.f k a0 a1) (zaq.f (k + 1) a0 a1) := by
 intro a0 a1 k
 obtain ⟨ih0, ih1⟩ := zaq.zbL k
 unfold zaq.f
 repeat' first
   | (with_reducible exact ih0 _ _ _ _ _ _)
   | (with_reducible exact ih1 _ _ _ _)
   | (with_reducible exact LeO.refl _)
   | (with_reducible exact LeO.none _)
   | (with_reducible refine LeO.ite ?_ ?_)
   | (with_reducible refine LeO.bind ?_ (fun _ => ?_))
   | exact ih0 _ _ _ _ _ _
   | exact ih1 _ _ _ _
   | exact LeO.none _
   | refine LeO.ite ?_ ?_
   | refine LeO.bind ?_ (fun _ => ?_)
theorem zaq.calls (k : Nat) (A0 : Option Addr) (c0 : Nat) (l0 : List (S45)) (a1 : ByteArray) (r : List (S42)) (w : World) (hr0 : Kd.C k45 w A0 l0.length l0) (hc0 : l0.length ≤ c0) (h : zaq.f k l0 a1 = some r) :
  Calls Tryd.prog 14 #[.slice A0 l0.length c0, .string a1] w fun e w' => ∃ v0_ : Value, e = .returned (v0_) ∧ Kd.R k42 42 w' w.heap.size (fun _ => True) v0_ r ∧ Below w.heap.size w w' := by
 have hu35 := Tryd.underlying35
 have hu42 := Tryd.underlying42
 have hu26 := Tryd.underlying26
 have HR0 := zaa.mk hr0
 have HC0 := zaa.mk hc0
 clear hr0 hc0
 have HB := zaa.mk (Below.refl w.heap.size w)
 have H : ((zbl.f l0 a1).bind fun t124 => (zaq.l0 k l0 a1 ([] : List (S42)) t124 (t124.length : Int) 0)) = some r := h
 clear h
 replace H := Option.bind_eq_some_iff.mp H
 obtain ⟨t124, A30, H⟩ := H
 replace H : (zaq.l0 k l0 a1 ([] : List (S42)) t124 (t124.length : Int) 0) = some r := H
 have A3 := zaa.mk A30
 clear A30
 have H' := zaa.mk H
 clear H
 go_enter Tryd.func14, Tryd.ntmps14
 go_wp2_with (first | ((with_reducible refine zbc (f := 12) rfl ?_); refine zcL (some 11) rfl rfl Tryd.func12 k9 rfl #[.slice A0 l0.length c0, .string a1] rfl m9 ?_; (with_reducible refine (zbl.calls _ _ l0 a1 t124 _ ?side1 ?side2 A3.out).mono ?_); (case side1 => repeat (first | exact HR0.out | (with_reducible refine Kd.zbs ?_ _) | (with_reducible refine Kd.zbz ?_ _) | (with_reducible refine Kd.zbZ ?_))); (case side2 => exact HC0.out); rintro e w4 ⟨v125, rfl, ho0, hb⟩; refine ⟨_, rfl, ?_⟩; have n0_ := zaa.mk (Kd.zbJ ho0 (zaD (by repeat (first | (with_reducible first | exact HB.out | apply zaf | apply zad | apply zae) | exact HB.out)))); have n1_ := zaa.mk (zaL (by repeat (first | (with_reducible first | exact HB.out | apply zaf | apply zad | apply zae) | exact HB.out)) hb); clear HB; have HO126 := n0_; have HB := n1_; clear n0_ n1_; (try clear hb); (try clear hb2); (try clear hk); (try clear hi); (try clear ho0); obtain ⟨Ao5, co5, eo5⟩ := Kd.za6 HO126.out; subst eo5))
 go_loopg [4, 13] k (fun kq v4 v13 w' => ∃ (x4_1 : List (S42)) (x13_1 : Int), v13 = .int .i64 x13_1 ∧ zaa (zaq.l0 kq l0 a1 x4_1 t124 (t124.length : Int) x13_1 = some r) ∧ zaa (kq ≤ k) ∧ zaa (Kd.R k42 42 w' w.heap.size (fun _ => True) v4 x4_1) ∧ zaa (Kd.R k35 35 w' w.heap.size (fun _ => True) (.slice Ao5 t124.length co5) t124) ∧ zaa (Below w.heap.size w w'))
 case atStart => exact ⟨(([] : List (S42))), (0), (by first | rfl | (simp; done) | (simp [*]; done)), H', ⟨Nat.le_refl _⟩, ⟨by first | exact Kd.R_nil _ _ _ _ _ | exact Kd.N_nil _ _ _ _ _ | exact Kd.V_nil _ _ _ _ _ | exact Kd.Q_nil _ _ _ _ _ | exact Kd.S_nil _ _ _ _ _⟩, ⟨by (with_reducible repeat (first | apply Kd.zaz | apply Kd.zaG | apply Kd.zaJ)); exact HO126.out⟩, ⟨by repeat (first | (with_reducible first | exact HB.out | apply zaf | apply zad | apply zae) | exact HB.out)⟩⟩
 case round =>
  clear H'
  try clear c1
  try clear p2
  obtain ⟨x4_1, x13_1, rfl, HA, HK1, HO_4, HO_11, HB⟩ := hrel
  cases gk with
  | zero => exact absurd HA.out (by simp [zaq.l0])
  | succ k1 =>
   have H := HA.out
   clear HA
   simp only [zaq.l0] at H
   by_cases c6 : x13_1 < (t124.length : Int)
   ·
    rw [if_pos c6] at H
    have c6b0 : decide (x13_1 < (t124.length : Int)) = true := decide_eq_true c6
    clear c6
    by_cases c7 : 0 ≤ x13_1
    ·
     rw [if_pos c7] at H
     have c7b0 : decide (0 ≤ x13_1) = true := decide_eq_true c7
     clear c7
     by_cases c8 : x13_1 < (t124.length : Int)
     ·
      rw [if_pos c8] at H
      have c8b0 : decide (x13_1 < (t124.length : Int)) = true := decide_eq_true c8
      clear c8
      by_cases c9 : x4_1.length < 5864062014805
      ·
       rw [if_pos c9] at H
       have LMc9 := zaa.mk c9
       clear c9
       obtain ⟨y129, hy129⟩ : ∃ y_ : List (S42), y_ = (x4_1 ++ [(⟨(zaE t124 x13_1).f0, (-1)⟩ : S42)]) := ⟨_, rfl⟩
       replace H : (zaq.l0 k1 l0 a1 y129 t124 (t124.length : Int) (wrap64 (x13_1 + 1))) = some r := by first | (rw [hy129]; with_reducible exact H) | (have H2_ := (Option.bind_some _ _).symm.trans H; rw [hy129]; with_reducible exact H2_) | (have H2_ := (Option.bind_some _ _).symm.trans H; with_reducible exact H2_) | with_reducible exact H | (rw [hy129]; exact H) | exact H
       have Ny129 := zaa.mk hy129
       clear hy129
       have H' := zaa.mk H
       clear H
       have p127 : 0 ≤ (x13_1 : Int) := of_decide_eq_true (by first | (with_reducible assumption) | assumption)
       have q127 : x13_1 < (t124.length : Int) := of_decide_eq_true (by first | (with_reducible assumption) | assumption)
       obtain ⟨ad127, e127, hx127_0, hx127_1⟩ := zb1 (Kd.zbb HO_11.out).2.2 x13_1 p127 q127
       cases e127
       replace p127 := eq_true p127
       replace q127 := eq_true q127
       go_wp2_with (first | ((with_reducible refine zbF (N := 6) rfl ?_); refine zbP ?hg (N := 6) ?hd (cs := #[.string (⟨#[]⟩ : ByteArray), .string (⟨#[]⟩ : ByteArray)]) (t := 35) ?hr ?_; (case hd => rfl); (case hg => rfl); (case hr => first | (go_simp; done) | (go_simp; rfl)); intro gb128 hg w10 hbox hb; have n0_ := zaa.mk (Kd.zaT (by (with_reducible repeat (first | apply Kd.zaz | apply Kd.zaG | apply Kd.zaJ)); exact HO_4.out) hb); have n1_ := zaa.mk (Kd.zaT (Kd.zhI (by (with_reducible repeat (first | apply Kd.zaz | apply Kd.zaG | apply Kd.zaJ)); exact HO_11.out) gb128 (Nat.le_of_eq hg.symm)) hb); have n2_ := zaa.mk (zaL (by repeat (first | (with_reducible first | exact HB.out | apply zaf | apply zad | apply zae) | exact HB.out)) hb); have n3_ := zaa.mk (hbox); have n4_ := zaa.mk ((by rw [hg]; exact (zaD (by repeat (first | (with_reducible first | exact HB.out | apply zaf | apply zad | apply zae) | exact HB.out))) : w.heap.size ≤ gb128)); have n5_ := zaa.mk ((by rw [hg]; exact (zaD (by repeat (first | (with_reducible first | exact HB.out | apply zaf | apply zad | apply zae) | exact HB.out))) : w.heap.size ≤ gb128)); clear HO_4; clear HO_11; clear HB; have HO_4 := n0_; have HO_11 := n1_; have HB := n2_; have BK128 := n3_; have GW128 := n4_; have GE128 := n5_; clear n0_ n1_ n2_ n3_ n4_ n5_; clear hb hbox hg; have hcz11_0 : w10.cell? ⟨gb128, 0, none⟩ = some (.string (⟨#[]⟩ : ByteArray)) := (zai BK128.out 0).trans rfl; have hcz11_1 : w10.cell? ⟨gb128, 1, none⟩ = some (.string (⟨#[]⟩ : ByteArray)) := (zai BK128.out 1).trans rfl; have hfz11_0 := zal BK128.out 0; have hfz11_1 := zal BK128.out 1) | ((with_reducible refine zcF (b := .append) (xs := #[.tmp 17, .tmp 21]) rfl ?_); at_builtin; refine Kd.zeV k42 (w0 := w) w.heap.size rfl (.tmp 17) (.tmp 21) 39 42 (.agg #[(.string ⟨#[]⟩), (.int .i64 0)]) 24 rfl Tryd.underlying39 zhM rfl d9 o9 u4 x4_1 (⟨(zaE t124 x13_1).f0, (-1)⟩ : S42) [.string ((zaE t124 x13_1).f0), .int .i64 (-1)] (fun _ => True) (fun _ => False) rfl (by first | (go_simp; done) | (go_simp; rfl)) ?aP (fun _ hk => hk.elim) ?aF ?aO ?aB ?aS ?aL ?_; (case aP => exact zgN _ _ _ (⟨(zaE t124 x13_1).f0, (-1)⟩ : S42)); (case aB => exact (by repeat (first | (with_reducible first | exact HB.out | apply zaf | apply zad | apply zae | refine zah ?_ GE128.out) | exact HB.out))); (case aF => exact (fun _ _ => trivial)); (case aO => exact (by (with_reducible repeat (first | apply Kd.zaz | apply Kd.zaG | apply Kd.zaJ)); exact Kd.zaR (Kd.R_far (p := ⟨gb128, 1, none⟩) (Kd.R_far (p := ⟨gb128, 0, none⟩) (Kd.zb4 HO_4.out BK128.out d9) (fun _ hk => hk.2) (.string ((zaE t124 x13_1).f0))) (fun _ hk => hk.2) (.string ((zaE t124 x13_1).f1))) (fun _ hk => trivial))); (case aS => exact (zaD (by repeat (first | (with_reducible first | exact HB.out | apply zaf | apply zad | apply zae | refine zah ?_ GE128.out) | exact HB.out)))); (case aL => have := LMc9.out; omega); intro v130 w12 ho hb hg hat; rw [← Ny129.out] at ho; have n0_ := zaa.mk (Kd.zfq (by (with_reducible repeat (first | apply Kd.zaz | apply Kd.zaG | apply Kd.zaJ)); exact (Kd.zaR (Kd.R_far (p := ⟨gb128, 1, none⟩) (Kd.R_far (p := ⟨gb128, 0, none⟩) (Kd.zaR HO_11.out (fun k_ hk => (⟨hk, hk.2⟩ : _ ∧ k_ ≠ gb128))) (fun _ hk => hk.2) (.string ((zaE t124 x13_1).f0))) (fun _ hk => hk.2) (.string ((zaE t124 x13_1).f1))) (fun _ h_ => h_.1))) (Kd.zdO (by (with_reducible repeat (first | apply Kd.zaz | apply Kd.zaG | apply Kd.zaJ)); exact (Kd.zaR (Kd.R_far (p := ⟨gb128, 1, none⟩) (Kd.R_far (p := ⟨gb128, 0, none⟩) (Kd.zb4 HO_4.out BK128.out d9) (fun _ hk => hk.2) (.string ((zaE t124 x13_1).f0))) (fun _ hk => hk.2) (.string ((zaE t124 x13_1).f1))) (fun _ h_ => h_.1)))) d9 hg); have n1_ := zaa.mk (zfj (g := gb128) (o := .cells #[.string ((zaE t124 x13_1).f0), .string ((zaE t124 x13_1).f1)] 35 (0, 0)) (by (with_reducible repeat (first | refine zaj ?_ _ | refine zan ?_ | refine zak ?_ _)); refine zay (cs := #[.string ((zaE t124 x13_1).f0), .string (⟨#[]⟩ : ByteArray)]) ?_ 1 _ rfl; (with_reducible repeat (first | refine zaj ?_ _ | refine zan ?_ | refine zak ?_ _)); refine zay (cs := #[.string (⟨#[]⟩ : ByteArray), .string (⟨#[]⟩ : ByteArray)]) ?_ 0 _ rfl; (with_reducible repeat (first | refine zaj ?_ _ | refine zan ?_ | refine zak ?_ _)); exact BK128.out) hg (Kd.R_ne HO_4.out BK128.out d9)); have n2_ := zaa.mk (hb); have n3_ := zaa.mk (ho); clear HO_11; clear BK128; clear HB; clear HO_4; have HO_11 := n0_; have BK128 := n1_; have HB := n2_; have HO131 := n3_; clear n0_ n1_ n2_ n3_; clear ho hb hg hat))
       go_roundg k1
       case measure => have := HK1.out; omega
       case rel => exact ⟨(y129), (wrap64 (x13_1 + 1)), (by first | rfl | (simp; done) | (simp [*]; done)), H', ⟨by have := HK1.out; omega⟩, ⟨by (with_reducible repeat (first | apply Kd.zaz | apply Kd.zaG | apply Kd.zaJ)); exact HO131.out⟩, ⟨by (with_reducible repeat (first | apply Kd.zaz | apply Kd.zaG | apply Kd.zaJ)); exact Kd.zaR HO_11.out (fun _ hk => trivial)⟩, ⟨by repeat (first | (with_reducible first | exact HB.out | apply zaf | apply zad | apply zae | refine zah ?_ GE128.out) | exact HB.out)⟩⟩
      ·
       rw [if_neg c9] at H
       exact absurd H s9
     ·
      rw [if_neg c8] at H
      exact absurd H s9
    ·
     rw [if_neg c7] at H
     exact absurd H s9
   ·
    rw [if_neg c6] at H
    have c6b0 : decide (x13_1 < (t124.length : Int)) = false := decide_eq_false c6
    clear c6
    replace H := Option.bind_eq_some_iff.mp H
    obtain ⟨t132, A130, H⟩ := H
    replace H : (zaq.l1 k1 x4_1 t132 (t132.length : Int) 0) = some r := H
    have A13 := zaa.mk A130
    clear A130
    have H' := zaa.mk H
    clear H
    go_wp2_with (first | ((with_reducible refine zbc (f := 20) rfl ?_); refine zcL (some 26) rfl rfl Tryd.func20 k9 rfl #[.slice A0 l0.length c0, .string a1] rfl m9 ?_; (with_reducible refine (zaC.calls _ _ l0 a1 t132 _ ?side1 ?side2 A13.out).mono ?_); (case side1 => repeat (first | exact (Kd.zax HR0.out HB.out) | (with_reducible refine Kd.zbs ?_ _) | (with_reducible refine Kd.zbz ?_ _) | (with_reducible refine Kd.zbZ ?_))); (case side2 => exact HC0.out); rintro e w14 ⟨v133, rfl, ho0, hb⟩; refine ⟨_, rfl, ?_⟩; have n0_ := zaa.mk (Kd.zaT (by (with_reducible repeat (first | apply Kd.zaz | apply Kd.zaG | apply Kd.zaJ)); exact HO_4.out) hb); have n1_ := zaa.mk (Kd.zaT (by (with_reducible repeat (first | apply Kd.zaz | apply Kd.zaG | apply Kd.zaJ)); exact HO_11.out) hb); have n2_ := zaa.mk (Kd.zgx (Kd.ziD ho0 (Kd.R_lt (by (with_reducible repeat (first | apply Kd.zaz | apply Kd.zaG | apply Kd.zaJ)); exact HO_11.out))) (zaD (by repeat (first | (with_reducible first | exact HB.out | apply zaf | apply zad | apply zae) | exact HB.out)))); have n3_ := zaa.mk (zaL (by repeat (first | (with_reducible first | exact HB.out | apply zaf | apply zad | apply zae) | exact HB.out)) hb); clear HO_4; clear HO_11; clear HB; have HO_4 := n0_; have HO_11 := n1_; have HO134 := n2_; have HB := n3_; clear n0_ n1_ n2_ n3_; (try clear hb); (try clear hb2); (try clear hk); (try clear hi); (try clear ho0); obtain ⟨Ao15, co15, eo15⟩ := Kd.zgt HO134.out; subst eo15))
    go_loopg [4, 28] k1 (fun kq v4 v28 w' => ∃ (x4_2 : List (S42)) (x28_2 : Int), v28 = .int .i64 x28_2 ∧ zaa (zaq.l1 kq x4_2 t132 (t132.length : Int) x28_2 = some r) ∧ zaa (kq ≤ k1) ∧ zaa (Kd.R k42 42 w' w.heap.size (fun _ => True) v4 x4_2) ∧ zaa (Kd.S k26 26 w' w.heap.size (fun _ => True) (.slice Ao15 t132.length co15) t132) ∧ zaa (Below w.heap.size w w'))
    case atStart => exact ⟨(x4_1), (0), (by first | rfl | (simp; done) | (simp [*]; done)), H', ⟨Nat.le_refl _⟩, ⟨by (with_reducible repeat (first | apply Kd.zaz | apply Kd.zaG | apply Kd.zaJ)); exact HO_4.out⟩, ⟨by (with_reducible repeat (first | apply Kd.zeU | apply Kd.zeY | apply Kd.zfM)); exact Kd.zdF HO134.out (fun _ hk => trivial)⟩, ⟨by repeat (first | (with_reducible first | exact HB.out | apply zaf | apply zad | apply zae) | exact HB.out)⟩⟩
    case round =>
     clear H'
     try clear c1
     try clear p1
     try clear q1
     try clear hx1
     try clear c2
     try clear p2
     try clear c6
     try clear c6b0
     try clear p6
     try clear c7
     try clear c7b0
     try clear c8
     try clear c8b0
     try clear c9
     try clear c12
     try clear p12
     try clear q12
     try clear hx12
     try clear c14
     try clear hcz11_0
     try clear hcz11_1
     try clear hfz11_0
     try clear hfz11_1
     try clear hx127_0
     try clear hx127_1
     try clear p127
     try clear p2
     try clear q127
     obtain ⟨x4_2, x28_2, rfl, HA, HK2, HO_4, HO_26, HB⟩ := hrel
     cases gk with
     | zero => exact absurd HA.out (by simp [zaq.l1])
     | succ k2 =>
      have H := HA.out
      clear HA
      simp only [zaq.l1] at H
      by_cases c16 : x28_2 < (t132.length : Int)
      ·
       rw [if_pos c16] at H
       have c16b0 : decide (x28_2 < (t132.length : Int)) = true := decide_eq_true c16
       clear c16
       by_cases c17 : 0 ≤ x28_2
       ·
        rw [if_pos c17] at H
        have c17b0 : decide (0 ≤ x28_2) = true := decide_eq_true c17
        clear c17
        by_cases c18 : x28_2 < (t132.length : Int)
        ·
         rw [if_pos c18] at H
         have c18b0 : decide (x28_2 < (t132.length : Int)) = true := decide_eq_true c18
         clear c18
         by_cases c19 : x4_2.length < 5864062014805
         ·
          rw [if_pos c19] at H
          have LMc19 := zaa.mk c19
          clear c19
          obtain ⟨y137, hy137⟩ : ∃ y_ : List (S42), y_ = (x4_2 ++ [(⟨(zaF t132 x28_2).f0, (((zaF t132 x28_2).f1).length : Int)⟩ : S42)]) := ⟨_, rfl⟩
          replace H : (zaq.l1 k2 y137 t132 (t132.length : Int) (wrap64 (x28_2 + 1))) = some r := by first | (rw [hy137]; with_reducible exact H) | (have H2_ := (Option.bind_some _ _).symm.trans H; rw [hy137]; with_reducible exact H2_) | (have H2_ := (Option.bind_some _ _).symm.trans H; with_reducible exact H2_) | with_reducible exact H | (rw [hy137]; exact H) | exact H
          have Ny137 := zaa.mk hy137
          clear hy137
          have H' := zaa.mk H
          clear H
          have p135 : 0 ≤ (x28_2 : Int) := of_decide_eq_true (by first | (with_reducible assumption) | assumption)
          have q135 : x28_2 < (t132.length : Int) := of_decide_eq_true (by first | (with_reducible assumption) | assumption)
          obtain ⟨ad135, A135_1, c135_1, e135, hx135_0, hx135_1, hx135_2, hl135_1, hi135_1⟩ := zcz (Kd.zfP HO_26.out).2.2 x28_2 p135 q135
          cases e135
          obtain ⟨ce135, hce135, hMe135, hcc135⟩ := Kd.S_get HO_26.out z26 x28_2 p135 (by first | exact q135 | exact of_decide_eq_true (by first | (with_reducible assumption) | assumption) | (have e_ := (Kd.zfP HO_26.out).1; omega))
          obtain ⟨ve135_1, rfl, ge135_1⟩ := zgC hMe135
          have hv135_1 := hcc135 1 _ rfl
          rw [zb0 _ _ 1 o9] at hv135_1
          replace hv135_1 := Option.some.inj (hv135_1.symm.trans hx135_1)
          rw [hv135_1] at ge135_1
          have HL135_1 := zaa.mk (show Kd.R k35 35 _ _ _ _ ((zaF t132 x28_2).f1) from ge135_1)
          clear hv135_1 ge135_1
          clear hcc135 hce135
          have HR135_1 := zaa.mk hi135_1
          have HC135_1 := zaa.mk hl135_1
          clear hi135_1 hl135_1
          replace p135 := eq_true p135
          replace q135 := eq_true q135
          go_wp2_with (first | ((with_reducible refine zbF (N := 8) rfl ?_); refine zbP ?hg (N := 8) ?hd (cs := #[.string (⟨#[]⟩ : ByteArray), .slice none 0 0, .string (⟨#[]⟩ : ByteArray)]) (t := 26) ?hr ?_; (case hd => rfl); (case hg => rfl); (case hr => first | (go_simp; done) | (go_simp; rfl)); intro gb136 hg w20 hbox hb; have n0_ := zaa.mk (Kd.zaT (by (with_reducible repeat (first | apply Kd.zaz | apply Kd.zaG | apply Kd.zaJ)); exact HO_4.out) hb); have n1_ := zaa.mk (Kd.zeP (Kd.zhj (by (with_reducible repeat (first | apply Kd.zeU | apply Kd.zeY | apply Kd.zfM)); exact HO_26.out) gb136 (Nat.le_of_eq hg.symm)) hb); have n2_ := zaa.mk (Kd.zaT (by (with_reducible repeat (first | apply Kd.zaz | apply Kd.zaG | apply Kd.zaJ)); exact HL135_1.out) hb); have n3_ := zaa.mk (Kd.zax (by repeat (first | (with_reducible exact HR135_1.out) | (with_reducible refine Kd.zbs ?_ _) | (with_reducible refine Kd.zbz ?_ _) | (with_reducible refine Kd.zbZ ?_) | exact HR135_1.out)) hb); have n4_ := zaa.mk (zaL (by repeat (first | (with_reducible first | exact HB.out | apply zaf | apply zad | apply zae) | exact HB.out)) hb); have n5_ := zaa.mk (hbox); have n6_ := zaa.mk ((by rw [hg]; exact (zaD (by repeat (first | (with_reducible first | exact HB.out | apply zaf | apply zad | apply zae) | exact HB.out))) : w.heap.size ≤ gb136)); have n7_ := zaa.mk ((by rw [hg]; exact (zaD (by repeat (first | (with_reducible first | exact HB.out | apply zaf | apply zad | apply zae) | exact HB.out))) : w.heap.size ≤ gb136)); clear HO_4; clear HO_26; clear HL135_1; clear HR135_1; clear HB; have HO_4 := n0_; have HO_26 := n1_; have HL135_1 := n2_; have HR135_1 := n3_; have HB := n4_; have BK136 := n5_; have GW136 := n6_; have GE136 := n7_; clear n0_ n1_ n2_ n3_ n4_ n5_ n6_ n7_; clear hb hbox hg; have hcz21_0 : w20.cell? ⟨gb136, 0, none⟩ = some (.string (⟨#[]⟩ : ByteArray)) := (zai BK136.out 0).trans rfl; have hcz21_1 : w20.cell? ⟨gb136, 1, none⟩ = some (.slice none 0 0) := (zai BK136.out 1).trans rfl; have hcz21_2 : w20.cell? ⟨gb136, 2, none⟩ = some (.string (⟨#[]⟩ : ByteArray)) := (zai BK136.out 2).trans rfl; have hfz21_0 := zal BK136.out 0; have hfz21_1 := zal BK136.out 1; have hfz21_2 := zal BK136.out 2) | ((with_reducible refine zcF (b := .append) (xs := #[.tmp 32, .tmp 39]) rfl ?_); at_builtin; refine Kd.zeV k42 (w0 := w) w.heap.size rfl (.tmp 32) (.tmp 39) 39 42 (.agg #[(.string ⟨#[]⟩), (.int .i64 0)]) 24 rfl Tryd.underlying39 zhM rfl d9 o9 u4 x4_2 (⟨(zaF t132 x28_2).f0, (((zaF t132 x28_2).f1).length : Int)⟩ : S42) [.string ((zaF t132 x28_2).f0), .int .i64 (((zaF t132 x28_2).f1).length : Int)] (fun _ => True) (fun _ => False) rfl (by first | (go_simp; done) | (go_simp; rfl)) ?aP (fun _ hk => hk.elim) ?aF ?aO ?aB ?aS ?aL ?_; (case aP => exact zgN _ _ _ (⟨(zaF t132 x28_2).f0, (((zaF t132 x28_2).f1).length : Int)⟩ : S42)); (case aB => exact (by repeat (first | (with_reducible first | exact HB.out | apply zaf | apply zad | apply zae | refine zah ?_ GE136.out) | exact HB.out))); (case aF => exact (fun _ _ => trivial)); (case aO => exact (by (with_reducible repeat (first | apply Kd.zaz | apply Kd.zaG | apply Kd.zaJ)); exact Kd.zaR (Kd.R_far (p := ⟨gb136, 2, none⟩) (Kd.R_far (p := ⟨gb136, 1, none⟩) (Kd.R_far (p := ⟨gb136, 0, none⟩) (Kd.zb4 HO_4.out BK136.out d9) (fun _ hk => hk.2) (.string ((zaF t132 x28_2).f0))) (fun _ hk => hk.2) (.slice A135_1 ((zaF t132 x28_2).f1).length c135_1)) (fun _ hk => hk.2) (.string ((zaF t132 x28_2).f2))) (fun _ hk => trivial))); (case aS => exact (zaD (by repeat (first | (with_reducible first | exact HB.out | apply zaf | apply zad | apply zae | refine zah ?_ GE136.out) | exact HB.out)))); (case aL => have := LMc19.out; omega); intro v138 w22 ho hb hg hat; rw [← Ny137.out] at ho; have n0_ := zaa.mk (Kd.zh9 (by (with_reducible repeat (first | apply Kd.zeU | apply Kd.zeY | apply Kd.zfM)); exact (Kd.zdF (Kd.S_far (p := ⟨gb136, 2, none⟩) (Kd.S_far (p := ⟨gb136, 1, none⟩) (Kd.S_far (p := ⟨gb136, 0, none⟩) (Kd.zdF HO_26.out (fun k_ hk => (⟨hk, hk.2⟩ : _ ∧ k_ ≠ gb136))) (fun _ hk => hk.2) (.string ((zaF t132 x28_2).f0))) (fun _ hk => hk.2) (.slice A135_1 ((zaF t132 x28_2).f1).length c135_1)) (fun _ hk => hk.2) (.string ((zaF t132 x28_2).f2))) (fun _ h_ => h_.1))) (Kd.zdO (by (with_reducible repeat (first | apply Kd.zaz | apply Kd.zaG | apply Kd.zaJ)); exact (Kd.zaR (Kd.R_far (p := ⟨gb136, 2, none⟩) (Kd.R_far (p := ⟨gb136, 1, none⟩) (Kd.R_far (p := ⟨gb136, 0, none⟩) (Kd.zb4 HO_4.out BK136.out d9) (fun _ hk => hk.2) (.string ((zaF t132 x28_2).f0))) (fun _ hk => hk.2) (.slice A135_1 ((zaF t132 x28_2).f1).length c135_1)) (fun _ hk => hk.2) (.string ((zaF t132 x28_2).f2))) (fun _ h_ => h_.1)))) d9 hg); have n1_ := zaa.mk (Kd.zfq (by (with_reducible repeat (first | apply Kd.zaz | apply Kd.zaG | apply Kd.zaJ)); exact (Kd.zaR (Kd.R_far (p := ⟨gb136, 2, none⟩) (Kd.R_far (p := ⟨gb136, 1, none⟩) (Kd.R_far (p := ⟨gb136, 0, none⟩) (Kd.zb4 HL135_1.out BK136.out d9) (fun _ hk => hk.2) (.string ((zaF t132 x28_2).f0))) (fun _ hk => hk.2) (.slice A135_1 ((zaF t132 x28_2).f1).length c135_1)) (fun _ hk => hk.2) (.string ((zaF t132 x28_2).f2))) (fun _ h_ => h_.1))) (Kd.zdO (by (with_reducible repeat (first | apply Kd.zaz | apply Kd.zaG | apply Kd.zaJ)); exact (Kd.zaR (Kd.R_far (p := ⟨gb136, 2, none⟩) (Kd.R_far (p := ⟨gb136, 1, none⟩) (Kd.R_far (p := ⟨gb136, 0, none⟩) (Kd.zb4 HO_4.out BK136.out d9) (fun _ hk => hk.2) (.string ((zaF t132 x28_2).f0))) (fun _ hk => hk.2) (.slice A135_1 ((zaF t132 x28_2).f1).length c135_1)) (fun _ hk => hk.2) (.string ((zaF t132 x28_2).f2))) (fun _ h_ => h_.1)))) d9 hg); have n2_ := zaa.mk (zfj (g := gb136) (o := .cells #[.string ((zaF t132 x28_2).f0), .slice A135_1 ((zaF t132 x28_2).f1).length c135_1, .string ((zaF t132 x28_2).f2)] 26 (0, 0)) (by (with_reducible repeat (first | refine zaj ?_ _ | refine zan ?_ | refine zak ?_ _)); refine zay (cs := #[.string ((zaF t132 x28_2).f0), .slice A135_1 ((zaF t132 x28_2).f1).length c135_1, .string (⟨#[]⟩ : ByteArray)]) ?_ 2 _ rfl; (with_reducible repeat (first | refine zaj ?_ _ | refine zan ?_ | refine zak ?_ _)); refine zay (cs := #[.string ((zaF t132 x28_2).f0), .slice none 0 0, .string (⟨#[]⟩ : ByteArray)]) ?_ 1 _ rfl; (with_reducible repeat (first | refine zaj ?_ _ | refine zan ?_ | refine zak ?_ _)); refine zay (cs := #[.string (⟨#[]⟩ : ByteArray), .slice none 0 0, .string (⟨#[]⟩ : ByteArray)]) ?_ 0 _ rfl; (with_reducible repeat (first | refine zaj ?_ _ | refine zan ?_ | refine zak ?_ _)); exact BK136.out) hg (Kd.R_ne HO_4.out BK136.out d9)); have n3_ := zaa.mk (hb); have n4_ := zaa.mk (ho); clear HO_26; clear HL135_1; clear BK136; clear HB; clear HO_4; have HO_26 := n0_; have HL135_1 := n1_; have BK136 := n2_; have HB := n3_; have HO139 := n4_; clear n0_ n1_ n2_ n3_ n4_; clear ho hb hg hat))
          go_roundg k2
          case measure => have := HK1.out; have := HK2.out; omega
          case rel => exact ⟨(y137), (wrap64 (x28_2 + 1)), (by first | rfl | (simp; done) | (simp [*]; done)), H', ⟨by have := HK1.out; have := HK2.out; omega⟩, ⟨by (with_reducible repeat (first | apply Kd.zaz | apply Kd.zaG | apply Kd.zaJ)); exact HO139.out⟩, ⟨by (with_reducible repeat (first | apply Kd.zeU | apply Kd.zeY | apply Kd.zfM)); exact Kd.zdF HO_26.out (fun _ hk => trivial)⟩, ⟨by repeat (first | (with_reducible first | exact HB.out | apply zaf | apply zad | apply zae | refine zah ?_ GE136.out) | exact HB.out)⟩⟩
         ·
          rw [if_neg c19] at H
          exact absurd H s9
        ·
         rw [if_neg c18] at H
         exact absurd H s9
       ·
        rw [if_neg c17] at H
        exact absurd H s9
      ·
       rw [if_neg c16] at H
       have c16b0 : decide (x28_2 < (t132.length : Int)) = false := decide_eq_false c16
       clear c16
       obtain rfl := Option.some.inj H
       go_wp2
       go_ret
       exact ⟨_, by first | rfl | (simp [zaV, zaW] <;> rfl) | (simp [*, zaV, zaW] <;> rfl), by (with_reducible repeat (first | apply Kd.zaz | apply Kd.zaG | apply Kd.zaJ)); exact HO_4.out, by repeat (first | (with_reducible first | exact HB.out | apply zaf | apply zad | apply zae) | exact HB.out)⟩
open Go.Proofs.YtgcfmllgomikoaaDoorTab in
def zaQ.f (k : Nat) (l0 : List (S45)) (a1 a2 : ByteArray) : Option (Int × Bool) := (zaq.f k l0 a1).bind fun L => if L.length < 4398046511104 then some (arN L a2, arB L a2) else none
theorem zaQ.mono : ∀ l0 a1 a2 k, LeO (zaQ.f k l0 a1 a2) (zaQ.f (k + 1) l0 a1 a2) := by
 intro l0 a1 a2 k
 exact LeO.bind (zaq.mono l0 a1 k) (fun o => LeO.refl _)
open Go.Proofs.YtgcfmllgomikoaaDoorTab in
theorem zaQ.calls (k : Nat) (A0 : Option Addr) (c0 : Nat) (l0 : List (S45)) (a1 a2 : ByteArray) (r1 : Int) (r2 : Bool) (w : World) (hr0 : Kd.C k45 w A0 l0.length l0) (hc0 : l0.length ≤ c0) (h : zaQ.f k l0 a1 a2 = some (r1, r2)) :
  Calls Tryd.prog 9 #[.slice A0 l0.length c0, .string a1, .string a2] w fun e w' => e = .returned (.tuple #[.int .i64 r1, .bool r2]) ∧ Below w.heap.size w w' := by
 obtain ⟨L, hL, h⟩ := Option.bind_eq_some_iff.1 h
 by_cases hl : L.length < 4398046511104
 ·
  rw [if_pos hl] at h
  cases h
  exact zd9 A0 c0 l0 a1 a2 L w (fun w' hb => zaq.calls k A0 c0 l0 a1 L w' (Kd.zax hr0 hb) hc0 hL) hl
 ·
  rw [if_neg hl] at h; cases h
open Go.Proofs.YtgcfmllgomikoaaDoorTab in
def zbv.f (l0 : List (S45)) (a1 : ByteArray) : Option (Int × Bool) := if l0.length < 4398046511104 then some (at1 l0 a1, is1 l0 a1) else none
open Go.Proofs.YtgcfmllgomikoaaDoorTab in
theorem zbv.calls (A0 : Option Addr) (c0 : Nat) (l0 : List (S45)) (a1 : ByteArray) (r1 : Int) (r2 : Bool) (w : World) (hr0 : Kd.C k45 w A0 l0.length l0) (hc0 : l0.length ≤ c0) (h : zbv.f l0 a1 = some (r1, r2)) :
  Calls Tryd.prog 10 #[.slice A0 l0.length c0, .string a1] w fun e w' => e = .returned (.tuple #[.int .i64 r1, .bool r2]) ∧ Below w.heap.size w w' := by
 unfold zbv.f at h
 by_cases hl : l0.length < 4398046511104
 ·
  rw [if_pos hl] at h
  cases h
  exact zb9 A0 c0 l0 a1 w hr0 hl
 ·
  rw [if_neg hl] at h; cases h
theorem eqA35 (d : Nat) (w : World) (x0 y0 : ByteArray) (x1 y1 : ByteArray) :
  (Op.equalIn (d + 2) 35 (.agg #[.string x0, .string x1]) (.agg #[.string y0, .string y1])).run Tryd.prog w = .ok (x0.toList == y0.toList && (x1.toList == y1.toList)) w := by
 refine zgQ Tryd.underlying35 k9 ?_
 refine zeO (by rfl) (by go_simp; rfl) (by go_simp; rfl) q9 ?_
 exact zeG (by rfl) (by go_simp; rfl) (by go_simp; rfl) q9
end Go.Proofs.YtgcfmllgomikoaaDoor.PAll
end

section
namespace Go.Proofs.YtgcfmllgomikoaaDoor.PAll
open Go.RowKit Go.Proofs.YtgcfmllgomikoaaDoorW.PrintWords Go.Proofs.YtgcfmllgomikoaaDoorW.PrintLast Go.Proofs.YtgcfmllgomikoaaDoorW.za2
attribute [local go_sem] zbj zbi zbw zbx za7 za8 zbh zbg
attribute [local go_sem high] eqA35
def zav.l0 : Nat → List (S35) → List (S35) → Bool → Int → Option (Bool)
 | 0, _, _, _, _ => none
 | k + 1, x0, x1, x5, x6 => if x5 = true then (if x6 < (x0.length : Int) then (if 0 ≤ x6 then (if x6 < (x1.length : Int) then (zav.l0 k x0 x1 ((((zaE x0 x6).f0).toList) == (((zaE x1 x6).f0).toList) && ((((zaE x0 x6).f1).toList) == (((zaE x1 x6).f1).toList))) (wrap64 (x6 + 1))) else (none)) else (none)) else (some x5)) else (some x5)
def zav.f (k : Nat) (l0 : List (S35)) (l1 : List (S35)) : Option (Bool) := zav.l0 k l0 l1 ((l0.length : Int) == (l1.length : Int)) 0
theorem zav.zbL : ∀ k, (∀ y0 y1 y2 y3, LeO (zav.l0 k y0 y1 y2 y3) (zav.l0 (k + 1) y0 y1 y2 y3))
 | 0 => fun _ _ _ _ r h => by simp [zav.l0] at h
 | k + 1 => by
  have ih0 := zav.zbL k
  ·
   intro y0 y1 y2 y3
   unfold zav.l0
   repeat' first
   | (with_reducible exact ih0 _ _ _ _)
   | (with_reducible exact LeO.refl _)
   | (with_reducible exact LeO.none _)
   | (with_reducible refine LeO.ite ?_ ?_)
   | (with_reducible refine LeO.bind ?_ (fun _ => ?_))
   | exact ih0 _ _ _ _
   | exact LeO.none _
   | refine LeO.ite ?_ ?_
   | refine LeO.bind ?_ (fun _ => ?_)
theorem zav.mono : ∀ a0 a1 k, LeO (zav.f k a0 a1) (zav.f (k + 1) a0 a1) := by
 intro a0 a1 k
 have ih0 := zav.zbL k
 unfold zav.f
 repeat' first
   | (with_reducible exact ih0 _ _ _ _)
   | (with_reducible exact LeO.refl _)
   | (with_reducible exact LeO.none _)
   | (with_reducible refine LeO.ite ?_ ?_)
   | (with_reducible refine LeO.bind ?_ (fun _ => ?_))
   | exact ih0 _ _ _ _
   | exact LeO.none _
   | refine LeO.ite ?_ ?_
   | refine LeO.bind ?_ (fun _ => ?_)
theorem zav.calls (k : Nat) (A0 : Option Addr) (c0 : Nat) (l0 : List (S35)) (A1 : Option Addr) (c1 : Nat) (l1 : List (S35)) (r : Bool) (w : World) (hr0 : Kd.C k35 w A0 l0.length l0) (hc0 : l0.length ≤ c0) (hr1 : Kd.C k35 w A1 l1.length l1) (hc1 : l1.length ≤ c1) (h : zav.f k l0 l1 = some r) :
  Calls Tryd.prog 11 #[.slice A0 l0.length c0, .slice A1 l1.length c1] w fun e w' => e = .returned (.bool r) ∧ zaP w w' := by
 have hu35 := Tryd.underlying35
 have HR0 := zaa.mk hr0
 have HC0 := zaa.mk hc0
 clear hr0 hc0
 have HR1 := zaa.mk hr1
 have HC1 := zaa.mk hc1
 clear hr1 hc1
 have H : (zav.l0 k l0 l1 ((l0.length : Int) == (l1.length : Int)) 0) = some r := h
 clear h
 have H' := zaa.mk H
 clear H
 go_enter Tryd.func11, Tryd.ntmps11
 go_wp2
 repeat (go_quiet (fail); try go_wp2)
 go_loopg [5, 6] k (fun kq v5 v6 w' => ∃ (x5_1 : Bool) (x6_1 : Int), v5 = .bool x5_1 ∧ v6 = .int .i64 x6_1 ∧ zaa (zav.l0 kq l0 l1 x5_1 x6_1 = some r) ∧ zaa (kq ≤ k) ∧ zaP w w')
 case atStart => exact ⟨(((l0.length : Int) == (l1.length : Int))), (0), (by first | rfl | (simp; done) | (simp [*]; done)), (by first | rfl | (simp; done) | (simp [*]; done)), H', ⟨Nat.le_refl _⟩, by repeat (first | exact zaP.refl _ | apply zaP.step)⟩
 case round =>
  clear H'
  try clear c1
  try clear p2
  obtain ⟨x5_1, x6_1, rfl, rfl, HA, HK1, ⟨m1, rfl⟩⟩ := hrel
  cases gk with
  | zero => exact absurd HA.out (by simp [zav.l0])
  | succ k1 =>
   have H := HA.out
   clear HA
   simp only [zav.l0] at H
   by_cases c3 : x5_1 = true
   ·
    subst c3
    have H1 : (if x6_1 < (l0.length : Int) then (if 0 ≤ x6_1 then (if x6_1 < (l1.length : Int) then (zav.l0 k1 l0 l1 ((((zaE l0 x6_1).f0).toList) == (((zaE l1 x6_1).f0).toList) && ((((zaE l0 x6_1).f1).toList) == (((zaE l1 x6_1).f1).toList))) (wrap64 (x6_1 + 1))) else (none)) else (none)) else (some true)) = some r := by rw [if_pos rfl] at H; exact H
    clear H
    have H := H1
    clear H1
    by_cases c4 : x6_1 < (l0.length : Int)
    ·
     rw [if_pos c4] at H
     have c4b0 : decide (x6_1 < (l0.length : Int)) = true := decide_eq_true c4
     clear c4
     by_cases c5 : 0 ≤ x6_1
     ·
      rw [if_pos c5] at H
      have c5b0 : decide (0 ≤ x6_1) = true := decide_eq_true c5
      clear c5
      by_cases c6 : x6_1 < (l1.length : Int)
      ·
       rw [if_pos c6] at H
       have c6b0 : decide (x6_1 < (l1.length : Int)) = true := decide_eq_true c6
       clear c6
       have H' := zaa.mk H
       clear H
       have p140 : 0 ≤ (x6_1 : Int) := of_decide_eq_true (by first | (with_reducible assumption) | assumption)
       have q140 : x6_1 < (l0.length : Int) := of_decide_eq_true (by first | (with_reducible assumption) | assumption)
       obtain ⟨ad140, e140, hx140_0, hx140_1⟩ := zb1 HR0.out x6_1 p140 q140
       cases e140
       replace p140 := eq_true p140
       replace q140 := eq_true q140
       have p141 : 0 ≤ (x6_1 : Int) := of_decide_eq_true (by first | (with_reducible assumption) | assumption)
       have q141 : x6_1 < (l1.length : Int) := of_decide_eq_true (by first | (with_reducible assumption) | assumption)
       obtain ⟨ad141, e141, hx141_0, hx141_1⟩ := zb1 HR1.out x6_1 p141 q141
       cases e141
       replace p141 := eq_true p141
       replace q141 := eq_true q141
       go_wp2
       repeat (go_quiet (fail); try go_wp2)
       go_roundg k1
       case measure => have := HK1.out; omega
       case rel => exact ⟨(((((zaE l0 x6_1).f0).toList) == (((zaE l1 x6_1).f0).toList) && ((((zaE l0 x6_1).f1).toList) == (((zaE l1 x6_1).f1).toList)))), (wrap64 (x6_1 + 1)), (by first | rfl | (simp; done) | (simp [*]; done)), (by first | rfl | (simp; done) | (simp [*]; done)), H', ⟨by have := HK1.out; omega⟩, by repeat (first | exact zaP.refl _ | apply zaP.step)⟩
      ·
       rw [if_neg c6] at H
       exact absurd H s9
     ·
      rw [if_neg c5] at H
      exact absurd H s9
    ·
     rw [if_neg c4] at H
     have c4b0 : decide (x6_1 < (l0.length : Int)) = false := decide_eq_false c4
     clear c4
     obtain rfl := Option.some.inj H
     go_wp2
     repeat (go_quiet (fail); try go_wp2)
     go_ret
     exact ⟨by first | rfl | (simp; done) | (simp [*]; done), by repeat (first | exact zaP.refl _ | apply zaP.step)⟩
   ·
    replace c3 := Bool.eq_false_iff.mpr c3
    subst c3
    have H1 : (some false) = some r := by rw [if_neg (show ¬ (false = true) by decide)] at H; exact H
    clear H
    have H := H1
    clear H1
    obtain rfl := Option.some.inj H
    go_wp2
    repeat (go_quiet (fail); try go_wp2)
    go_ret
    exact ⟨by first | rfl | (simp; done) | (simp [*]; done), by repeat (first | exact zaP.refl _ | apply zaP.step)⟩
end Go.Proofs.YtgcfmllgomikoaaDoor.PAll
end

section
namespace Go.Proofs.YtgcfmllgomikoaaDoor.PAll
open Go.RowKit Go.Proofs.YtgcfmllgomikoaaDoorW.PrintWords Go.Proofs.YtgcfmllgomikoaaDoorW.PrintLast Go.Proofs.YtgcfmllgomikoaaDoorW.za2
attribute [local go_sem] zbj zbi zbw zbx za7 za8 zbh zbg
theorem eqA42 (d : Nat) (w : World) (x0 y0 : ByteArray) (x1 y1 : Int) :
  (Op.equalIn (d + 2) 42 (.agg #[.string x0, .int .i64 x1]) (.agg #[.string y0, .int .i64 y1])).run Tryd.prog w = .ok (x0.toList == y0.toList && (x1 == y1)) w := by
 refine zgQ Tryd.underlying42 k9 ?_
 refine zeO (by rfl) (by go_simp; rfl) (by go_simp; rfl) q9 ?_
 exact zeG (by rfl) (by go_simp; rfl) (by go_simp; rfl) q9
end Go.Proofs.YtgcfmllgomikoaaDoor.PAll
end

section
namespace Go.Proofs.YtgcfmllgomikoaaDoor.PAll
open Go.RowKit Go.Proofs.YtgcfmllgomikoaaDoorW.PrintWords Go.Proofs.YtgcfmllgomikoaaDoorW.PrintLast Go.Proofs.YtgcfmllgomikoaaDoorW.za2
attribute [local go_sem] zbj zbi zbw zbx za7 za8 zbh zbg
attribute [local go_sem high] eqA42
def zat.l0 : Nat → List (S42) → List (S42) → Bool → Int → Option (Bool)
 | 0, _, _, _, _ => none
 | k + 1, x0, x1, x5, x6 => if x5 = true then (if x6 < (x0.length : Int) then (if 0 ≤ x6 then (if x6 < (x1.length : Int) then (zat.l0 k x0 x1 ((((zaI x0 x6).f0).toList) == (((zaI x1 x6).f0).toList) && (((zaI x0 x6).f1) == ((zaI x1 x6).f1))) (wrap64 (x6 + 1))) else (none)) else (none)) else (some x5)) else (some x5)
def zat.f (k : Nat) (l0 : List (S42)) (l1 : List (S42)) : Option (Bool) := zat.l0 k l0 l1 ((l0.length : Int) == (l1.length : Int)) 0
theorem zat.zbL : ∀ k, (∀ y0 y1 y2 y3, LeO (zat.l0 k y0 y1 y2 y3) (zat.l0 (k + 1) y0 y1 y2 y3))
 | 0 => fun _ _ _ _ r h => by simp [zat.l0] at h
 | k + 1 => by
  have ih0 := zat.zbL k
  ·
   intro y0 y1 y2 y3
   unfold zat.l0
   repeat' first
   | (with_reducible exact ih0 _ _ _ _)
   | (with_reducible exact LeO.refl _)
   | (with_reducible exact LeO.none _)
   | (with_reducible refine LeO.ite ?_ ?_)
   | (with_reducible refine LeO.bind ?_ (fun _ => ?_))
   | exact ih0 _ _ _ _
   | exact LeO.none _
   | refine LeO.ite ?_ ?_
   | refine LeO.bind ?_ (fun _ => ?_)
theorem zat.mono : ∀ a0 a1 k, LeO (zat.f k a0 a1) (zat.f (k + 1) a0 a1) := by
 intro a0 a1 k
 have ih0 := zat.zbL k
 unfold zat.f
 repeat' first
   | (with_reducible exact ih0 _ _ _ _)
   | (with_reducible exact LeO.refl _)
   | (with_reducible exact LeO.none _)
   | (with_reducible refine LeO.ite ?_ ?_)
   | (with_reducible refine LeO.bind ?_ (fun _ => ?_))
   | exact ih0 _ _ _ _
   | exact LeO.none _
   | refine LeO.ite ?_ ?_
   | refine LeO.bind ?_ (fun _ => ?_)
theorem zat.calls (k : Nat) (A0 : Option Addr) (c0 : Nat) (l0 : List (S42)) (A1 : Option Addr) (c1 : Nat) (l1 : List (S42)) (r : Bool) (w : World) (hr0 : Kd.C k42 w A0 l0.length l0) (hc0 : l0.length ≤ c0) (hr1 : Kd.C k42 w A1 l1.length l1) (hc1 : l1.length ≤ c1) (h : zat.f k l0 l1 = some r) :
  Calls Tryd.prog 13 #[.slice A0 l0.length c0, .slice A1 l1.length c1] w fun e w' => e = .returned (.bool r) ∧ zaP w w' := by
 have hu42 := Tryd.underlying42
 have HR0 := zaa.mk hr0
 have HC0 := zaa.mk hc0
 clear hr0 hc0
 have HR1 := zaa.mk hr1
 have HC1 := zaa.mk hc1
 clear hr1 hc1
 have H : (zat.l0 k l0 l1 ((l0.length : Int) == (l1.length : Int)) 0) = some r := h
 clear h
 have H' := zaa.mk H
 clear H
 go_enter Tryd.func13, Tryd.ntmps13
 go_wp2
 repeat (go_quiet (fail); try go_wp2)
 go_loopg [5, 6] k (fun kq v5 v6 w' => ∃ (x5_1 : Bool) (x6_1 : Int), v5 = .bool x5_1 ∧ v6 = .int .i64 x6_1 ∧ zaa (zat.l0 kq l0 l1 x5_1 x6_1 = some r) ∧ zaa (kq ≤ k) ∧ zaP w w')
 case atStart => exact ⟨(((l0.length : Int) == (l1.length : Int))), (0), (by first | rfl | (simp; done) | (simp [*]; done)), (by first | rfl | (simp; done) | (simp [*]; done)), H', ⟨Nat.le_refl _⟩, by repeat (first | exact zaP.refl _ | apply zaP.step)⟩
 case round =>
  clear H'
  try clear c1
  try clear p2
  obtain ⟨x5_1, x6_1, rfl, rfl, HA, HK1, ⟨m1, rfl⟩⟩ := hrel
  cases gk with
  | zero => exact absurd HA.out (by simp [zat.l0])
  | succ k1 =>
   have H := HA.out
   clear HA
   simp only [zat.l0] at H
   by_cases c3 : x5_1 = true
   ·
    subst c3
    have H1 : (if x6_1 < (l0.length : Int) then (if 0 ≤ x6_1 then (if x6_1 < (l1.length : Int) then (zat.l0 k1 l0 l1 ((((zaI l0 x6_1).f0).toList) == (((zaI l1 x6_1).f0).toList) && (((zaI l0 x6_1).f1) == ((zaI l1 x6_1).f1))) (wrap64 (x6_1 + 1))) else (none)) else (none)) else (some true)) = some r := by rw [if_pos rfl] at H; exact H
    clear H
    have H := H1
    clear H1
    by_cases c4 : x6_1 < (l0.length : Int)
    ·
     rw [if_pos c4] at H
     have c4b0 : decide (x6_1 < (l0.length : Int)) = true := decide_eq_true c4
     clear c4
     by_cases c5 : 0 ≤ x6_1
     ·
      rw [if_pos c5] at H
      have c5b0 : decide (0 ≤ x6_1) = true := decide_eq_true c5
      clear c5
      by_cases c6 : x6_1 < (l1.length : Int)
      ·
       rw [if_pos c6] at H
       have c6b0 : decide (x6_1 < (l1.length : Int)) = true := decide_eq_true c6
       clear c6
       have H' := zaa.mk H
       clear H
       have p142 : 0 ≤ (x6_1 : Int) := of_decide_eq_true (by first | (with_reducible assumption) | assumption)
       have q142 : x6_1 < (l0.length : Int) := of_decide_eq_true (by first | (with_reducible assumption) | assumption)
       obtain ⟨ad142, e142, hx142_0, hx142_1⟩ := zcS HR0.out x6_1 p142 q142
       cases e142
       replace p142 := eq_true p142
       replace q142 := eq_true q142
       have p143 : 0 ≤ (x6_1 : Int) := of_decide_eq_true (by first | (with_reducible assumption) | assumption)
       have q143 : x6_1 < (l1.length : Int) := of_decide_eq_true (by first | (with_reducible assumption) | assumption)
       obtain ⟨ad143, e143, hx143_0, hx143_1⟩ := zcS HR1.out x6_1 p143 q143
       cases e143
       replace p143 := eq_true p143
       replace q143 := eq_true q143
       go_wp2
       repeat (go_quiet (fail); try go_wp2)
       go_roundg k1
       case measure => have := HK1.out; omega
       case rel => exact ⟨(((((zaI l0 x6_1).f0).toList) == (((zaI l1 x6_1).f0).toList) && (((zaI l0 x6_1).f1) == ((zaI l1 x6_1).f1)))), (wrap64 (x6_1 + 1)), (by first | rfl | (simp; done) | (simp [*]; done)), (by first | rfl | (simp; done) | (simp [*]; done)), H', ⟨by have := HK1.out; omega⟩, by repeat (first | exact zaP.refl _ | apply zaP.step)⟩
      ·
       rw [if_neg c6] at H
       exact absurd H s9
     ·
      rw [if_neg c5] at H
      exact absurd H s9
    ·
     rw [if_neg c4] at H
     have c4b0 : decide (x6_1 < (l0.length : Int)) = false := decide_eq_false c4
     clear c4
     obtain rfl := Option.some.inj H
     go_wp2
     repeat (go_quiet (fail); try go_wp2)
     go_ret
     exact ⟨by first | rfl | (simp; done) | (simp [*]; done), by repeat (first | exact zaP.refl _ | apply zaP.step)⟩
   ·
    replace c3 := Bool.eq_false_iff.mpr c3
    subst c3
    have H1 : (some false) = some r := by rw [if_neg (show ¬ (false = true) by decide)] at H; exact H
    clear H
    have H := H1
    clear H1
    obtain rfl := Option.some.inj H
    go_wp2
    repeat (go_quiet (fail); try go_wp2)
    go_ret
    exact ⟨by first | rfl | (simp; done) | (simp [*]; done), by repeat (first | exact zaP.refl _ | apply zaP.step)⟩
end Go.Proofs.YtgcfmllgomikoaaDoor.PAll
end

section
namespace Go.Proofs.YtgcfmllgomikoaaDoor.PAll
open Go.RowKit Go.Proofs.YtgcfmllgomikoaaDoorW.PrintWords Go.Proofs.YtgcfmllgomikoaaDoorW.PrintLast Go.Proofs.YtgcfmllgomikoaaDoorW.za2
attribute [local go_sem] zbj zbi zbw zbx za7 za8 zbh zbg
open Go.Proofs.YtgcfmllgomikoaaDoorTab in
def zar.fits (c : S45) : Bool :=
 decide (c.f0.size ≤ 9223372036854775807) && decide (c.f1.size ≤ 9223372036854775807) && decide (c.f2.length < 1000000) && c.f2.all (fun v => decide (v.f0.size ≤ 9223372036854775807) && decide (v.f1.size ≤ 9223372036854775807)) && decide (c.f3.length < 1000000) &&
  c.f3.all fun m => decide (m.f0.size ≤ 9223372036854775807) && decide (m.f2.size ≤ 9223372036854775807) && decide (m.f1.length < 1000000) && m.f1.all fun p => decide (p.f0.size ≤ 9223372036854775807) && decide (p.f1.size ≤ 9223372036854775807)
open Go.Proofs.YtgcfmllgomikoaaDoorTab in
theorem zar.zh2 {c : S45} (h : zar.fits c = true) : Fits c := by
 unfold zar.fits at h
 simp only [Bool.and_eq_true, decide_eq_true_eq, List.all_eq_true] at h
 obtain ⟨⟨⟨⟨⟨h0, h1⟩, h2⟩, h3⟩, h4⟩, h5⟩ := h
 exact ⟨h0, h1, h2, h3, h4, fun m hm => ⟨(h5 m hm).1.1.1, (h5 m hm).1.1.2, (h5 m hm).1.2, (h5 m hm).2⟩⟩
def zar.mb (k : Nat) (l0 : List (S45)) (cls : ByteArray) : List (S42) := (zaq.f k l0 cls).getD []
open Go.Proofs.YtgcfmllgomikoaaDoorTab in
def zar.ok (k : Nat) (l0 : List (S45)) : Bool := zaC.small l0 && l0.all fun c => zar.fits c && decide ((za1 l0 c.f1).length < 4398046511104) && (zaq.f k l0 c.f1).isSome && decide ((zar.mb k l0 c.f1).length < 4398046511104)
open Go.Proofs.YtgcfmllgomikoaaDoorTab in
def zar.f (k : Nat) (l0 : List (S45)) : Option (Int × Int) := if zar.ok k l0 = true then some ((zb2 l0 (zar.mb k l0)).1, ((zb2 l0 (zar.mb k l0)).2 : Int)) else none
open Go.Proofs.YtgcfmllgomikoaaDoorTab in
theorem zar.zhS (l0 : List (S45)) (m1 m2 : ByteArray → List (S42)) (h : ∀ i, i < l0.length → m1 (clsAt l0 i).f1 = m2 (clsAt l0 i).f1) : zb2 l0 m1 = zb2 l0 m2 := by
 have hl : ∀ k i, i < l0.length → lookF l0 m1 k i = lookF l0 m2 k i := fun k i hi => by
  match k with
  | 0 => rfl
  | 1 => rfl
  | k + 2 => show ownF l0 (m1 (clsAt l0 i).f1) i = ownF l0 (m2 (clsAt l0 i).f1) i; rw [h i hi]
 have hs : ∀ k (l : List Nat), (∀ i ∈ l, i < l0.length) → scanL (lookF l0 m1 k) l = scanL (lookF l0 m2 k) l := fun k l => by
  induction l with
  | nil => intro _; rfl
  | cons i r ih => intro hi; unfold scanL; rw [hl k i (hi i List.mem_cons_self), ih (fun j hj => hi j (List.mem_cons_of_mem _ hj))]
 have hr : ∀ ks, zcl l0 m1 ks = zcl l0 m2 ks := fun ks => by
  induction ks with
  | nil => rfl
  | cons k r ih =>
   unfold zcl
   rw [hs k _ (fun i hi => List.mem_range.1 hi), ih]
   cases hc : scanL (lookF l0 m2 k) (List.range l0.length) with
   | none => rfl
   | some i =>
    have : i < l0.length := by
     have key : ∀ l : List Nat, scanL (lookF l0 m2 k) l = some i → i ∈ l := fun l => by
      induction l with
      | nil => intro h; simp [scanL] at h
      | cons j r ih =>
       intro h; unfold scanL at h
       by_cases hj : lookF l0 m2 k j = 0
       ·
        rw [if_pos hj] at h; exact List.mem_cons_of_mem _ (ih h)
       ·
        rw [if_neg hj] at h; cases h; exact List.mem_cons_self
     exact List.mem_range.1 (key _ hc)
    simp only [hl k i this]
 unfold zb2
 rw [hr]
theorem zar.zd7 {l0 : List (S45)} {i : Nat} (h : i < l0.length) : Go.Proofs.YtgcfmllgomikoaaDoorTab.clsAt l0 i ∈ l0 := by
 unfold Go.Proofs.YtgcfmllgomikoaaDoorTab.clsAt zab
 rw [Int.toNat_natCast, List.getD_eq_getElem?_getD, List.getElem?_eq_getElem h]
 exact List.getElem_mem h
open Go.Proofs.YtgcfmllgomikoaaDoorTab in
theorem zar.mono : ∀ l0 k, LeO (zar.f k l0) (zar.f (k + 1) l0) := by
 intro l0 k r h
 unfold zar.f at h ⊢
 by_cases ho : zar.ok k l0 = true
 ·
  rw [if_pos ho] at h
  have hc : ∀ c ∈ l0, zaq.f (k + 1) l0 c.f1 = zaq.f k l0 c.f1 := fun c hc => by
   unfold zar.ok at ho
   simp only [Bool.and_eq_true, List.all_eq_true] at ho
   obtain ⟨L, hL⟩ := Option.isSome_iff_exists.1 (ho.2 c hc).1.2
   rw [hL]; exact zaq.mono l0 c.f1 k L hL
  have ho2 : zar.ok (k + 1) l0 = true := by
   unfold zar.ok at ho ⊢
   simp only [Bool.and_eq_true, List.all_eq_true] at ho ⊢
   refine ⟨ho.1, fun c h => ?_⟩
   have hm : zar.mb (k + 1) l0 c.f1 = zar.mb k l0 c.f1 := by unfold zar.mb; rw [hc c h]
   rw [hc c h, hm]; exact ho.2 c h
  rw [if_pos ho2, zar.zhS l0 (zar.mb (k + 1) l0) (zar.mb k l0) (fun i hi => by unfold zar.mb; rw [hc _ (zar.zd7 hi)])]
  exact h
 ·
  rw [if_neg ho] at h; cases h
open Go.Proofs.YtgcfmllgomikoaaDoorTab in
theorem zar.calls (k : Nat) (A0 : Option Addr) (c0 : Nat) (l0 : List (S45)) (r1 : Int) (r2 : Int) (w : World) (hr0 : Kd.C k45 w A0 l0.length l0) (hc0 : l0.length ≤ c0) (h : zar.f k l0 = some (r1, r2)) (hG : GW w := by exact Go.Proofs.YtgcfmllgomikoaaDoorTab.GW.below hG (by repeat (first | (with_reducible first | exact HB.out | apply zaf | apply zad | apply zae) | exact HB.out | exact Below.refl _ _))) :
  Calls Tryd.prog 18 #[.slice A0 l0.length c0] w fun e w' => e = .returned (.agg #[.int .i64 r1, .int .i64 r2]) ∧ Below w.heap.size w w' := by
 unfold zar.f at h
 by_cases ho : zar.ok k l0 = true
 ·
  rw [if_pos ho] at h
  cases h
  unfold zar.ok at ho
  simp only [Bool.and_eq_true, List.all_eq_true, decide_eq_true_eq] at ho
  refine zfG A0 c0 l0 (zar.mb k l0) w hr0 (fun i hi w' hb => ?_) ⟨zaC.zeH ho.1, fun i hi => zar.zh2 (ho.2 _ (zar.zd7 hi)).1.1.1, fun i hi => (ho.2 _ (zar.zd7 hi)).1.1.2, fun i hi => (ho.2 _ (zar.zd7 hi)).2⟩ hG
  obtain ⟨L, hL⟩ := Option.isSome_iff_exists.1 (ho.2 _ (zar.zd7 hi)).1.2
  have hm : zar.mb k l0 (clsAt l0 i).f1 = L := by unfold zar.mb; rw [hL]; rfl
  rw [hm]
  exact zaq.calls k A0 c0 l0 _ L w' (Kd.zax hr0 hb) hc0 hL
 ·
  rw [if_neg ho] at h; cases h
end Go.Proofs.YtgcfmllgomikoaaDoor.PAll
end

section
namespace Go.Proofs.YtgcfmllgomikoaaDoor.PAll
open Go.RowKit Go.Proofs.YtgcfmllgomikoaaDoorW.PrintWords Go.Proofs.YtgcfmllgomikoaaDoorW.PrintLast Go.Proofs.YtgcfmllgomikoaaDoorW.za2
attribute [local go_sem] zbj zbi zbw zbx za7 za8 zbh zbg
attribute [local go_sem high] eqA51
def zaH.f (k : Nat) (a0 : Int) (a1 : Int) (l2 : List (S45)) : Option (Bool) := (zar.f k l2).bind fun bt144 => (some (bt144.1 == a0 && (bt144.2 == a1)))
theorem zaH.mono : ∀ a0 a1 a2 k, LeO (zaH.f k a0 a1 a2) (zaH.f (k + 1) a0 a1 a2) := by
 intro a0 a1 a2 k
 unfold zaH.f
 repeat' first
   | (with_reducible exact zar.mono _ _)
   | (with_reducible exact LeO.refl _)
   | (with_reducible exact LeO.none _)
   | (with_reducible refine LeO.ite ?_ ?_)
   | (with_reducible refine LeO.bind ?_ (fun _ => ?_))
   | exact zar.mono _ _
   | exact LeO.none _
   | refine LeO.ite ?_ ?_
   | refine LeO.bind ?_ (fun _ => ?_)
theorem zaH.calls (k : Nat) (a0 : Int) (a1 : Int) (A2 : Option Addr) (c2 : Nat) (l2 : List (S45)) (r : Bool) (w : World) (hr2 : Kd.C k45 w A2 l2.length l2) (hc2 : l2.length ≤ c2) (h : zaH.f k a0 a1 l2 = some r) (hG : Go.Proofs.YtgcfmllgomikoaaDoorTab.GW w := by exact Go.Proofs.YtgcfmllgomikoaaDoorTab.GW.below hG (by repeat (first | (with_reducible first | exact HB.out | apply zaf | apply zad | apply zae) | exact HB.out | exact Below.refl _ _))) :
  Calls Tryd.prog 15 #[.int .i64 a0, .int .i64 a1, .slice A2 l2.length c2] w fun e w' => e = .returned (.bool r) ∧ Below w.heap.size w w' := by
 have hu51 := Tryd.underlying51
 have HR2 := zaa.mk hr2
 have HC2 := zaa.mk hc2
 clear hr2 hc2
 have HB := zaa.mk (Below.refl w.heap.size w)
 have H : ((zar.f k l2).bind fun bt144 => (some (bt144.1 == a0 && (bt144.2 == a1)))) = some r := h
 clear h
 replace H := Option.bind_eq_some_iff.mp H
 obtain ⟨⟨t144, t145⟩, A40, H⟩ := H
 replace H : (some (t144 == a0 && (t145 == a1))) = some r := H
 have A4 := zaa.mk A40
 clear A40
 obtain rfl := Option.some.inj H
 go_enter Tryd.func15, Tryd.ntmps15
 go_wp2_with (first | ((with_reducible refine zbc (f := 18) rfl ?_); refine zcL (some 8) rfl rfl Tryd.func18 k9 rfl #[.slice A2 l2.length c2] rfl m9 ?_; (with_reducible refine (zar.calls k _ _ l2 t144 t145 _ ?side1 ?side2 A4.out).mono ?_); (case side1 => repeat (first | exact HR2.out | (with_reducible refine Kd.zbs ?_ _) | (with_reducible refine Kd.zbz ?_ _) | (with_reducible refine Kd.zbZ ?_))); (case side2 => exact HC2.out); rintro e w5 ⟨rfl, hb⟩; refine ⟨_, rfl, ?_⟩; have n0_ := zaa.mk (zaL (by repeat (first | (with_reducible first | exact HB.out | apply zaf | apply zad | apply zae) | exact HB.out)) hb); clear HB; have HB := n0_; clear n0_; (try clear hb); (try clear hb2); (try clear hk); (try clear hi)))
 go_ret
 exact ⟨by first | rfl | (simp [zaV, zaW] <;> rfl) | (simp [*, zaV, zaW] <;> rfl), by repeat (first | (with_reducible first | exact HB.out | apply zaf | apply zad | apply zae) | exact HB.out)⟩
open Go.Proofs.YtgcfmllgomikoaaDoorTab in
def za4.f (l0 : List (S45)) (a1 : ByteArray) : Option (List ByteArray) := if l0.length < 4398046511104 then some (supL l0 a1) else none
open Go.Proofs.YtgcfmllgomikoaaDoorTab in
theorem za4.calls (A0 : Option Addr) (c0 : Nat) (l0 : List (S45)) (a1 : ByteArray) (r : List ByteArray) (w : World) (hr0 : Kd.C k45 w A0 l0.length l0) (hc0 : l0.length ≤ c0) (h : za4.f l0 a1 = some r) :
  Calls Tryd.prog 21 #[.slice A0 l0.length c0, .string a1] w fun e w' => ∃ v0_ : Value, e = .returned (v0_) ∧ Kd.R Kd.string 9 w' w.heap.size (fun _ => True) v0_ r ∧ Below w.heap.size w w' := by
 unfold za4.f at h
 by_cases hl : l0.length < 4398046511104
 ·
  rw [if_pos hl] at h
  cases h
  exact zdq A0 c0 l0 a1 w hr0 hl
 ·
  rw [if_neg hl] at h; cases h
end Go.Proofs.YtgcfmllgomikoaaDoor.PAll
end

section
namespace Go.Proofs.YtgcfmllgomikoaaDoor.PAll
open Go.RowKit Go.Proofs.YtgcfmllgomikoaaDoorW.PrintWords Go.Proofs.YtgcfmllgomikoaaDoorW.PrintLast Go.Proofs.YtgcfmllgomikoaaDoorW.za2
attribute [local go_sem] zbj zbi zbw zbx za7 za8 zbh zbg
def zau.l0 : Nat → List ByteArray → List ByteArray → Bool → Int → Option (Bool)
 | 0, _, _, _, _ => none
 | k + 1, x0, x1, x5, x6 => if x5 = true then (if x6 < (x0.length : Int) then (if 0 ≤ x6 then (if x6 < (x1.length : Int) then (zau.l0 k x0 x1 ((rdOf ByteArray.empty x0 x6).toList == (rdOf ByteArray.empty x1 x6).toList) (wrap64 (x6 + 1))) else (none)) else (none)) else (some x5)) else (some x5)
def zau.f (k : Nat) (l0 : List ByteArray) (l1 : List ByteArray) : Option (Bool) := zau.l0 k l0 l1 ((l0.length : Int) == (l1.length : Int)) 0
theorem zau.zbL : ∀ k, (∀ y0 y1 y2 y3, LeO (zau.l0 k y0 y1 y2 y3) (zau.l0 (k + 1) y0 y1 y2 y3))
 | 0 => fun _ _ _ _ r h => by simp [zau.l0] at h
 | k + 1 => by
  have ih0 := zau.zbL k
  ·
   intro y0 y1 y2 y3
   unfold zau.l0
   repeat' first
   | (with_reducible exact ih0 _ _ _ _)
   | (with_reducible exact LeO.refl _)
   | (with_reducible exact LeO.none _)
   | (with_reducible refine LeO.ite ?_ ?_)
   | (with_reducible refine LeO.bind ?_ (fun _ => ?_))
   | exact ih0 _ _ _ _
   | exact LeO.none _
   | refine LeO.ite ?_ ?_
   | refine LeO.bind ?_ (fun _ => ?_)
theorem zau.mono : ∀ a0 a1 k, LeO (zau.f k a0 a1) (zau.f (k + 1) a0 a1) := by
 intro a0 a1 k
 have ih0 := zau.zbL k
 unfold zau.f
 repeat' first
   | (with_reducible exact ih0 _ _ _ _)
   | (with_reducible exact LeO.refl _)
   | (with_reducible exact LeO.none _)
   | (with_reducible refine LeO.ite ?_ ?_)
   | (with_reducible refine LeO.bind ?_ (fun _ => ?_))
   | exact ih0 _ _ _ _
   | exact LeO.none _
   | refine LeO.ite ?_ ?_
   | refine LeO.bind ?_ (fun _ => ?_)
theorem zau.calls (k : Nat) (A0 : Option Addr) (c0 : Nat) (l0 : List ByteArray) (A1 : Option Addr) (c1 : Nat) (l1 : List ByteArray) (r : Bool) (w : World) (hr0 : Kd.C Kd.string w A0 l0.length l0) (hc0 : l0.length ≤ c0) (hr1 : Kd.C Kd.string w A1 l1.length l1) (hc1 : l1.length ≤ c1) (h : zau.f k l0 l1 = some r) :
  Calls Tryd.prog 33 #[.slice A0 l0.length c0, .slice A1 l1.length c1] w fun e w' => e = .returned (.bool r) ∧ zaP w w' := by
 have HR0 := zaa.mk hr0
 have HC0 := zaa.mk hc0
 clear hr0 hc0
 have HR1 := zaa.mk hr1
 have HC1 := zaa.mk hc1
 clear hr1 hc1
 have H : (zau.l0 k l0 l1 ((l0.length : Int) == (l1.length : Int)) 0) = some r := h
 clear h
 have H' := zaa.mk H
 clear H
 go_enter Tryd.func33, Tryd.ntmps33
 go_wp2
 repeat (go_quiet (fail); try go_wp2)
 go_loopg [5, 6] k (fun kq v5 v6 w' => ∃ (x5_1 : Bool) (x6_1 : Int), v5 = .bool x5_1 ∧ v6 = .int .i64 x6_1 ∧ zaa (zau.l0 kq l0 l1 x5_1 x6_1 = some r) ∧ zaa (kq ≤ k) ∧ zaP w w')
 case atStart => exact ⟨(((l0.length : Int) == (l1.length : Int))), (0), (by first | rfl | (simp; done) | (simp [*]; done)), (by first | rfl | (simp; done) | (simp [*]; done)), H', ⟨Nat.le_refl _⟩, by repeat (first | exact zaP.refl _ | apply zaP.step)⟩
 case round =>
  clear H'
  try clear c1
  try clear p2
  obtain ⟨x5_1, x6_1, rfl, rfl, HA, HK1, ⟨m1, rfl⟩⟩ := hrel
  cases gk with
  | zero => exact absurd HA.out (by simp [zau.l0])
  | succ k1 =>
   have H := HA.out
   clear HA
   simp only [zau.l0] at H
   by_cases c3 : x5_1 = true
   ·
    subst c3
    have H1 : (if x6_1 < (l0.length : Int) then (if 0 ≤ x6_1 then (if x6_1 < (l1.length : Int) then (zau.l0 k1 l0 l1 ((rdOf ByteArray.empty l0 x6_1).toList == (rdOf ByteArray.empty l1 x6_1).toList) (wrap64 (x6_1 + 1))) else (none)) else (none)) else (some true)) = some r := by rw [if_pos rfl] at H; exact H
    clear H
    have H := H1
    clear H1
    by_cases c4 : x6_1 < (l0.length : Int)
    ·
     rw [if_pos c4] at H
     have c4b0 : decide (x6_1 < (l0.length : Int)) = true := decide_eq_true c4
     clear c4
     by_cases c5 : 0 ≤ x6_1
     ·
      rw [if_pos c5] at H
      have c5b0 : decide (0 ≤ x6_1) = true := decide_eq_true c5
      clear c5
      by_cases c6 : x6_1 < (l1.length : Int)
      ·
       rw [if_pos c6] at H
       have c6b0 : decide (x6_1 < (l1.length : Int)) = true := decide_eq_true c6
       clear c6
       have H' := zaa.mk H
       clear H
       have p146 : 0 ≤ (x6_1 : Int) := of_decide_eq_true (by first | (with_reducible assumption) | assumption)
       have q146 : x6_1 < (l0.length : Int) := of_decide_eq_true (by first | (with_reducible assumption) | assumption)
       obtain ⟨ad146, e146, hx146_0⟩ := Kd.zcx HR0.out x6_1 p146 q146
       cases e146
       replace p146 := eq_true p146
       replace q146 := eq_true q146
       have p147 : 0 ≤ (x6_1 : Int) := of_decide_eq_true (by first | (with_reducible assumption) | assumption)
       have q147 : x6_1 < (l1.length : Int) := of_decide_eq_true (by first | (with_reducible assumption) | assumption)
       obtain ⟨ad147, e147, hx147_0⟩ := Kd.zcx HR1.out x6_1 p147 q147
       cases e147
       replace p147 := eq_true p147
       replace q147 := eq_true q147
       go_wp2
       repeat (go_quiet (fail); try go_wp2)
       go_roundg k1
       case measure => have := HK1.out; omega
       case rel => exact ⟨(((rdOf ByteArray.empty l0 x6_1).toList == (rdOf ByteArray.empty l1 x6_1).toList)), (wrap64 (x6_1 + 1)), (by first | rfl | (simp; done) | (simp [*]; done)), (by first | rfl | (simp; done) | (simp [*]; done)), H', ⟨by have := HK1.out; omega⟩, by repeat (first | exact zaP.refl _ | apply zaP.step)⟩
      ·
       rw [if_neg c6] at H
       exact absurd H s9
     ·
      rw [if_neg c5] at H
      exact absurd H s9
    ·
     rw [if_neg c4] at H
     have c4b0 : decide (x6_1 < (l0.length : Int)) = false := decide_eq_false c4
     clear c4
     obtain rfl := Option.some.inj H
     go_wp2
     repeat (go_quiet (fail); try go_wp2)
     go_ret
     exact ⟨by first | rfl | (simp; done) | (simp [*]; done), by repeat (first | exact zaP.refl _ | apply zaP.step)⟩
   ·
    replace c3 := Bool.eq_false_iff.mpr c3
    subst c3
    have H1 : (some false) = some r := by rw [if_neg (show ¬ (false = true) by decide)] at H; exact H
    clear H
    have H := H1
    clear H1
    obtain rfl := Option.some.inj H
    go_wp2
    repeat (go_quiet (fail); try go_wp2)
    go_ret
    exact ⟨by first | rfl | (simp; done) | (simp [*]; done), by repeat (first | exact zaP.refl _ | apply zaP.step)⟩
end Go.Proofs.YtgcfmllgomikoaaDoor.PAll
end

section
namespace Go.Proofs.YtgcfmllgomikoaaDoorTab
open Go.RowKit Go.Proofs.YtgcfmllgomikoaaDoor.PAll Go.Proofs.YtgcfmllgomikoaaDoorW.PrintWords Go.Proofs.YtgcfmllgomikoaaDoorW.PrintLast Go.Proofs.YtgcfmllgomikoaaDoorRF Go.Proofs.YtgcfmllgomikoaaDoorRG Go.Proofs.YtgcfmllgomikoaaDoorWords
attribute [local go_sem] Oper.semAt_some
theorem C_blk {α : Type} (d : Kd α) {w : World} {b t : Nat} {cs : List Value} {xs : List α} (h : w.heap[b]? = some (.cells cs.toArray t (0, 0))) (hr : Reps (d.K w) d.sz xs cs) (hl : xs.length ≤ 9223372036854775807) : Kd.C d w (some ⟨b, 0, none⟩) xs.length xs :=
 ⟨rfl, hl, fun _ => ⟨_, rfl, fun j p hj => ⟨(cs.drop (j * d.sz)).take d.sz, d.K_len (hr.2 j p hj), hr.2 j p hj, fun i u hu => by
  have ha : (⟨b, 0, none⟩ : Addr).add (j * d.sz + i) = ⟨b, j * d.sz + i, none⟩ := by unfold Addr.add; split <;> simp_all
  rw [ha, zas h]
  have hi : i < d.sz := by
   rcases Nat.lt_or_ge i d.sz with h | h
   ·
    exact h
   ·
    rw [List.getElem?_take, if_neg o9] at hu; cases hu
  rw [List.getElem?_take, if_pos hi, List.getElem?_drop] at hu
  simpa using hu⟩⟩⟩
def twoL (ty nm : ByteArray) : List (S45) :=
 [⟨⟨#[65]⟩, ⟨#[]⟩, [⟨⟨#[120]⟩, ⟨#[105, 110, 116]⟩⟩], [⟨⟨#[109]⟩, [⟨⟨#[97]⟩, ⟨#[63]⟩⟩], ⟨#[105, 110, 116]⟩⟩]⟩,
   ⟨⟨#[66]⟩, ⟨#[65]⟩, [⟨nm, ⟨#[65]⟩⟩], [⟨⟨#[109]⟩, [⟨⟨#[98]⟩, ty⟩], ⟨#[105, 110, 116]⟩⟩, ⟨⟨#[110]⟩, [], ⟨#[66]⟩⟩]⟩]
structure TwoAt (W : World) (n : Nat) (ty nm : ByteArray) : Prop where
 b0 : W.heap[n]? = some (.cells #[.string ⟨#[120]⟩, .string ⟨#[105, 110, 116]⟩] 35 (0, 0))
 b1 : W.heap[n + 1]? = some (.cells #[.string ⟨#[97]⟩, .string ⟨#[63]⟩] 35 (0, 0))
 b2 : W.heap[n + 2]? = some (.cells #[.string ⟨#[109]⟩, .slice (some ⟨n + 1, 0, none⟩) 1 1, .string ⟨#[105, 110, 116]⟩] 26 (0, 0))
 b4 : W.heap[n + 4]? = some (.cells #[.string nm, .string ⟨#[65]⟩] 35 (0, 0))
 b5 : W.heap[n + 5]? = some (.cells #[.string ⟨#[98]⟩, .string ty] 35 (0, 0))
 b6 : W.heap[n + 6]? = some (.cells #[.string ⟨#[109]⟩, .slice (some ⟨n + 5, 0, none⟩) 1 1, .string ⟨#[105, 110, 116]⟩, .string ⟨#[110]⟩, .slice none 0 0, .string ⟨#[66]⟩] 26 (0, 0))
 b8 : W.heap[n + 8]? = some (.cells #[.string ⟨#[65]⟩, .string ⟨#[]⟩, .slice (some ⟨n, 0, none⟩) 1 1, .slice (some ⟨n + 2, 0, none⟩) 1 1, .string ⟨#[66]⟩, .string ⟨#[65]⟩, .slice (some ⟨n + 4, 0, none⟩) 1 1, .slice (some ⟨n + 6, 0, none⟩) 2 2] 45 (0, 0))
theorem TwoAt.below {W W' : World} {n : Nat} {ty nm : ByteArray} (h : TwoAt W n ty nm) (hb : Below W.heap.size W W') : TwoAt W' n ty nm := by
 have hs : ∀ {k : Nat} {o : Obj}, W.heap[k]? = some o → W'.heap[k]? = some o := fun h => (hb.block _ (zaw h)).trans h
 exact ⟨hs h.b0, hs h.b1, hs h.b2, hs h.b4, hs h.b5, hs h.b6, hs h.b8⟩
theorem Reps1 {α : Type} {R : α → List Value → Prop} {size : Nat} {p : α} {c : List Value} (hp : R p c) (hc : c.length = size) : Reps R size [p] c := by
 have := (Reps.none R size).snoc hp hc
 simpa using this
theorem Reps2 {α : Type} {R : α → List Value → Prop} {size : Nat} {p q : α} {c e : List Value} (hp : R p c) (hc : c.length = size) (hq : R q e) (he : e.length = size) : Reps R size [p, q] (c ++ e) := (Reps1 hp hc).snoc hq he
theorem TwoAt.tab {W : World} {n : Nat} {ty nm : ByteArray} (h : TwoAt W n ty nm) : Kd.C k45 W (some ⟨n + 8, 0, none⟩) (twoL ty nm).length (twoL ty nm) := by
 have c0 := C_blk k35 (xs := [⟨⟨#[120]⟩, ⟨#[105, 110, 116]⟩⟩]) h.b0 (Reps1 (zdY W ⟨⟨#[120]⟩, ⟨#[105, 110, 116]⟩⟩) rfl) s9
 have c1 := C_blk k35 (xs := [⟨⟨#[97]⟩, ⟨#[63]⟩⟩]) h.b1 (Reps1 (zdY W ⟨⟨#[97]⟩, ⟨#[63]⟩⟩) rfl) s9
 have c4 := C_blk k35 (xs := [⟨nm, ⟨#[65]⟩⟩]) h.b4 (Reps1 (zdY W ⟨nm, ⟨#[65]⟩⟩) rfl) s9
 have c5 := C_blk k35 (xs := [⟨⟨#[98]⟩, ty⟩]) h.b5 (Reps1 (zdY W ⟨⟨#[98]⟩, ty⟩) rfl) s9
 have cn : Kd.C k35 W none 0 [] := ⟨rfl, by decide, fun h => absurd h d9⟩
 have c2 := C_blk k26 (xs := [⟨⟨#[109]⟩, [⟨⟨#[97]⟩, ⟨#[63]⟩⟩], ⟨#[105, 110, 116]⟩⟩]) h.b2 (Reps1 (zgv W ⟨⟨#[109]⟩, [⟨⟨#[97]⟩, ⟨#[63]⟩⟩], ⟨#[105, 110, 116]⟩⟩ (Nat.le_refl 1) c1) rfl) s9
 have c6 := C_blk k26 (xs := [⟨⟨#[109]⟩, [⟨⟨#[98]⟩, ty⟩], ⟨#[105, 110, 116]⟩⟩, ⟨⟨#[110]⟩, [], ⟨#[66]⟩⟩]) h.b6 (Reps2 (zgv W ⟨⟨#[109]⟩, [⟨⟨#[98]⟩, ty⟩], ⟨#[105, 110, 116]⟩⟩ (Nat.le_refl 1) c5) rfl (zgv W ⟨⟨#[110]⟩, [], ⟨#[66]⟩⟩ (Nat.le_refl 0) cn) rfl) s9
 exact C_blk k45 (xs := twoL ty nm) h.b8 (Reps2 (zdp W ⟨⟨#[65]⟩, ⟨#[]⟩, [⟨⟨#[120]⟩, ⟨#[105, 110, 116]⟩⟩], [⟨⟨#[109]⟩, [⟨⟨#[97]⟩, ⟨#[63]⟩⟩], ⟨#[105, 110, 116]⟩⟩]⟩ (Nat.le_refl 1) c0 (Nat.le_refl 1) c2) rfl (zdp W ⟨⟨#[66]⟩, ⟨#[65]⟩, [⟨nm, ⟨#[65]⟩⟩], [⟨⟨#[109]⟩, [⟨⟨#[98]⟩, ty⟩], ⟨#[105, 110, 116]⟩⟩, ⟨⟨#[110]⟩, [], ⟨#[66]⟩⟩]⟩ (Nat.le_refl 1) c4 (Nat.le_refl 2) c6) rfl) (by simp [twoL])
theorem zcE (w : World) : Calls Tryd.prog 6 #[] w fun e w' => e = .returned (.slice (some ⟨w.heap.size + 8, 0, none⟩) 2 2) ∧ TwoAt w' w.heap.size ⟨#[63]⟩ ⟨#[121]⟩ ∧ Below w.heap.size w w' := by
 have hu := Tryd.underlying45
 have hu2 := Tryd.underlying26
 have hu3 := Tryd.underlying35
 go_enter Tryd.func6, Tryd.ntmps6
 go_wp2_with fail
 go_ret
 refine ⟨rfl, ⟨?_, ?_, ?_, ?_, ?_, ?_, ?_⟩, ?_⟩
 all_goals first
  | ((repeat (first | exact at_new _ _ s9 | refine zaK ?_ _)); done)
  | ((repeat (first | exact Below.refl _ _ | refine Below.alloc ?_ (by simp <;> omega) _)); done)
abbrev qm : ByteArray := ⟨#[63]⟩
abbrev ya : ByteArray := ⟨#[121]⟩
theorem zaP.zgz {w w' : World} (h : zaP w w') : Below w.heap.size w w' := by
 obtain ⟨n, rfl⟩ := h
 exact zad (Below.refl _ _) _
theorem zfp (w : World) (hG : GW w) : Calls Tryd.prog 16 #[] w fun e w' => e = .returned (.bool true) ∧ Below w.heap.size w w' := by
 have hu := Tryd.underlying45
 go_enter Tryd.func16, Tryd.ntmps16
 have HB := zaa.mk (Below.refl w.heap.size w)
 go_wp2_with fail
 refine (zcE w).mono ?_
 rintro e w1 ⟨rfl, hT, hbr⟩
 replace HB := zaa.mk (HB.out.trans (hbr.mono HB.out.size))
 have HT1 := zaa.mk hT
 clear hT hbr
 go_wp2_with fail
 refine (zaH.calls 20 0 0 _ 2 (twoL qm ya) true _ (HT1.out.below (by repeat (first | exact Below.refl _ _ | refine Below.alloc ?_ s9 _))).tab d9 k9).mono ?_
 rintro e w2 ⟨rfl, hb⟩
 have hbr : Below w1.heap.size w1 w2 := Below.trans (by repeat (first | exact Below.refl _ _ | refine Below.alloc ?_ s9 _)) (hb.mono (by first | exact Nat.le_refl _ | (simp; done) | (simp; omega)))
 replace HB := zaa.mk (HB.out.trans (hbr.mono HB.out.size))
 replace HT1 := zaa.mk (HT1.out.below hbr)
 clear hb hbr
 clear HT1
 go_wp2_with fail
 refine (zcE w2).mono ?_
 rintro e w3 ⟨rfl, hT, hbr⟩
 replace HB := zaa.mk (HB.out.trans (hbr.mono HB.out.size))
 have HT1 := zaa.mk hT
 clear hT hbr
 go_wp2_with fail
 refine (za4.calls _ 2 (twoL qm ya) ⟨#[66]⟩ [⟨#[66]⟩, ⟨#[65]⟩] _ (HT1.out.below (by repeat (first | exact Below.refl _ _ | refine Below.alloc ?_ s9 _))).tab d9 k9).mono ?_
 rintro e w4 ⟨v, rfl, hRv, hb⟩
 have hbr : Below w3.heap.size w3 w4 := Below.trans (by repeat (first | exact Below.refl _ _ | refine Below.alloc ?_ s9 _)) (hb.mono (by first | exact Nat.le_refl _ | (simp; done) | (simp; omega)))
 replace HB := zaa.mk (HB.out.trans (hbr.mono HB.out.size))
 replace HT1 := zaa.mk (HT1.out.below hbr)
 obtain ⟨A4, c4, rfl, hc4, hC4⟩ := Kd.zbr hRv
 have HC4 := zaa.mk hC4
 have HL4 := zaa.mk hc4
 clear hRv hC4 hc4
 clear hb hbr
 clear HT1
 go_wp2_with fail
 refine (zau.calls 20 _ _ [⟨#[66]⟩, ⟨#[65]⟩] _ 2 [⟨#[66]⟩, ⟨#[65]⟩] true _ (Kd.zax HC4.out (by repeat (first | exact Below.refl _ _ | refine Below.alloc ?_ s9 _))) HL4.out (C_blk Kd.string (xs := [⟨#[66]⟩, ⟨#[65]⟩]) (by repeat (first | exact at_new _ _ s9 | exact at_new _ _ HSV.out | refine zaK ?_ _)) (Reps2 rfl rfl rfl rfl) s9) d9 k9).mono ?_
 rintro e w5 ⟨rfl, hb⟩
 replace hb := zaP.zgz hb
 have hbr : Below w4.heap.size w4 w5 := Below.trans (by repeat (first | exact Below.refl _ _ | refine Below.alloc ?_ s9 _)) (hb.mono (by first | exact Nat.le_refl _ | (simp; done) | (simp; omega)))
 replace HB := zaa.mk (HB.out.trans (hbr.mono HB.out.size))
 clear hb hbr
 clear HC4 HL4
 go_wp2_with fail
 refine (zaH.calls 20 9 0 _ 1 [⟨⟨#[65]⟩, ⟨#[65]⟩, [], []⟩] true _ (C_blk k45 (xs := [⟨⟨#[65]⟩, ⟨#[65]⟩, [], []⟩]) (by repeat (first | exact at_new _ _ s9 | exact at_new _ _ HSV.out | refine zaK ?_ _)) (Reps1 (zdp _ (⟨⟨#[65]⟩, ⟨#[65]⟩, [], []⟩ : S45) (Nat.le_refl 0) (show Kd.C k35 _ none 0 [] from ⟨rfl, by decide, fun h => absurd h d9⟩) (Nat.le_refl 0) (show Kd.C k26 _ none 0 [] from ⟨rfl, by decide, fun h => absurd h d9⟩)) rfl) s9) d9 k9).mono ?_
 rintro e w6 ⟨rfl, hb⟩
 have hbr : Below w5.heap.size w5 w6 := Below.trans (by repeat (first | exact Below.refl _ _ | refine Below.alloc ?_ s9 _)) (hb.mono (by first | exact Nat.le_refl _ | (simp; done) | (simp; omega)))
 replace HB := zaa.mk (HB.out.trans (hbr.mono HB.out.size))
 clear hb hbr
 go_wp2_with fail
 go_ret
 exact ⟨rfl, HB.out⟩
theorem TwoAt.ty {W : World} {n : Nat} {ty nm : ByteArray} (h : TwoAt W n ty nm) (s : ByteArray) : TwoAt (W.setCell ⟨n + 5, 1, none⟩ (.string s)) n s nm :=
 ⟨at_set h.b0 (p := ⟨n + 5, 1, none⟩) s9 _, at_set h.b1 (p := ⟨n + 5, 1, none⟩) s9 _, at_set h.b2 (p := ⟨n + 5, 1, none⟩) s9 _, at_set h.b4 (p := ⟨n + 5, 1, none⟩) s9 _, zbe h.b5 1 _, at_set h.b6 (p := ⟨n + 5, 1, none⟩) s9 _, at_set h.b8 (p := ⟨n + 5, 1, none⟩) s9 _⟩
theorem TwoAt.nm {W : World} {n : Nat} {ty nm : ByteArray} (h : TwoAt W n ty nm) (s : ByteArray) : TwoAt (W.setCell ⟨n + 4, 0, none⟩ (.string s)) n ty s :=
 ⟨at_set h.b0 (p := ⟨n + 4, 0, none⟩) s9 _, at_set h.b1 (p := ⟨n + 4, 0, none⟩) s9 _, at_set h.b2 (p := ⟨n + 4, 0, none⟩) s9 _, zbe h.b4 0 _, at_set h.b5 (p := ⟨n + 4, 0, none⟩) s9 _, at_set h.b6 (p := ⟨n + 4, 0, none⟩) s9 _, at_set h.b8 (p := ⟨n + 4, 0, none⟩) s9 _⟩
theorem TwoAt.other {W : World} {n : Nat} {ty nm : ByteArray} (h : TwoAt W n ty nm) {p : Addr} (hp : p.block < n ∨ n + 8 < p.block) (u : Value) : TwoAt (W.setCell p u) n ty nm :=
 ⟨at_set h.b0 o9 _, at_set h.b1 o9 _, at_set h.b2 o9 _, at_set h.b4 o9 _, at_set h.b5 o9 _, at_set h.b6 o9 _, at_set h.b8 o9 _⟩
theorem zdy (w : World) (hG : GW w) : Calls Tryd.prog 3 #[] w fun e w' => e = .returned (.bool true) ∧ Below w.heap.size w w' := by
 have hu := Tryd.underlying45
 have hu2 := Tryd.underlying26
 have hu3 := Tryd.underlying35
 go_enter Tryd.func3, Tryd.ntmps3
 have HB := zaa.mk (Below.refl w.heap.size w)
 go_wp2_with fail
 refine (zcE w).mono ?_
 rintro e w1 ⟨rfl, hT, hbr⟩
 replace HB := zaa.mk (HB.out.trans (hbr.mono HB.out.size))
 have HT1 := zaa.mk hT
 clear hT hbr
 go_wp2_with fail
 refine (zaS.calls _ 2 (twoL qm ya) ⟨#[66]⟩ ⟨#[109]⟩ ⟨#[109]⟩ [⟨⟨#[98]⟩, ⟨#[63]⟩⟩] ⟨#[105, 110, 116]⟩ ⟨#[66]⟩ true _ (HT1.out.below (by repeat (first | exact Below.refl _ _ | refine Below.alloc ?_ s9 _))).tab d9 k9).mono ?_
 rintro e w2 ⟨v, rfl, hRv, hb⟩
 have hbr : Below w1.heap.size w1 w2 := Below.trans (by repeat (first | exact Below.refl _ _ | refine Below.alloc ?_ s9 _)) (hb.mono (by first | exact Nat.le_refl _ | (simp; done) | (simp; omega)))
 replace HB := zaa.mk (HB.out.trans (hbr.mono HB.out.size))
 replace HT1 := zaa.mk (HT1.out.below hbr)
 obtain ⟨A2, c2, rfl, hc2, hC2⟩ := Kd.zbr hRv
 have HR2 := zaa.mk hC2
 clear hRv hC2 hc2
 clear hb hbr
 have hlen : ([⟨⟨#[98]⟩, ⟨#[63]⟩⟩] : List S35).length = 1 := rfl
 rw [hlen]
 rw [hlen] at HR2
 clear hlen
 go_wp2_with fail
 refine (za3.calls _ 2 (twoL qm ya) ⟨#[66]⟩ ⟨#[120]⟩ ⟨#[105, 110, 116]⟩ true _ (HT1.out.below (by repeat (first | exact Below.refl _ _ | refine Below.alloc ?_ s9 _))).tab d9 k9).mono ?_
 rintro e w3 ⟨rfl, hb⟩
 have hbr : Below w2.heap.size w2 w3 := Below.trans (by repeat (first | exact Below.refl _ _ | refine Below.alloc ?_ s9 _)) (hb.mono (by first | exact Nat.le_refl _ | (simp; done) | (simp; omega)))
 replace HB := zaa.mk (HB.out.trans (hbr.mono HB.out.size))
 replace HT1 := zaa.mk (HT1.out.below hbr)
 replace HR2 := zaa.mk (Kd.zax HR2.out hbr)
 have HM := zaa.mk ((hb.block _ s9).trans (at_new w2 (.cells #[.string ⟨#[109]⟩, .slice A2 1 c2, .string ⟨#[105, 110, 116]⟩] 26 (0, 0)) rfl))
 clear hb hbr
 go_wp2_with fail
 refine (za3.calls _ 2 (twoL qm ya) ⟨#[65]⟩ ⟨#[121]⟩ ⟨#[]⟩ false _ (HT1.out.below (by repeat (first | exact Below.refl _ _ | refine Below.alloc ?_ s9 _))).tab d9 k9).mono ?_
 rintro e w4 ⟨rfl, hb⟩
 have hbr : Below w3.heap.size w3 w4 := Below.trans (by repeat (first | exact Below.refl _ _ | refine Below.alloc ?_ s9 _)) (hb.mono (by first | exact Nat.le_refl _ | (simp; done) | (simp; omega)))
 replace HB := zaa.mk (HB.out.trans (hbr.mono HB.out.size))
 replace HT1 := zaa.mk (HT1.out.below hbr)
 replace HM := zaa.mk ((hbr.block _ (zaw HM.out)).trans HM.out)
 replace HR2 := zaa.mk (Kd.zax HR2.out hbr)
 clear hb hbr
 go_wp2_with fail
 refine (zaQ.calls 20 _ 2 (twoL qm ya) ⟨#[66]⟩ ⟨#[110]⟩ 0 true _ (HT1.out.below (by repeat (first | exact Below.refl _ _ | refine Below.alloc ?_ s9 _))).tab d9 k9).mono ?_
 rintro e w5 ⟨rfl, hb⟩
 have hbr : Below w4.heap.size w4 w5 := Below.trans (by repeat (first | exact Below.refl _ _ | refine Below.alloc ?_ s9 _)) (hb.mono (by first | exact Nat.le_refl _ | (simp; done) | (simp; omega)))
 replace HB := zaa.mk (HB.out.trans (hbr.mono HB.out.size))
 replace HT1 := zaa.mk (HT1.out.below hbr)
 replace HM := zaa.mk ((hbr.block _ (zaw HM.out)).trans HM.out)
 replace HR2 := zaa.mk (Kd.zax HR2.out hbr)
 clear hb hbr
 go_wp2_with fail
 refine (zbv.calls _ 2 (twoL qm ya) ⟨#[67]⟩ 0 false _ (HT1.out.below (by repeat (first | exact Below.refl _ _ | refine Below.alloc ?_ s9 _))).tab d9 k9).mono ?_
 rintro e w6 ⟨rfl, hb⟩
 have hbr : Below w5.heap.size w5 w6 := Below.trans (by repeat (first | exact Below.refl _ _ | refine Below.alloc ?_ s9 _)) (hb.mono (by first | exact Nat.le_refl _ | (simp; done) | (simp; omega)))
 replace HB := zaa.mk (HB.out.trans (hbr.mono HB.out.size))
 replace HT1 := zaa.mk (HT1.out.below hbr)
 replace HM := zaa.mk ((hbr.block _ (zaw HM.out)).trans HM.out)
 replace HR2 := zaa.mk (Kd.zax HR2.out hbr)
 clear hb hbr
 have m1 := zas HM.out 1
 simp only [ga] at m1
 obtain ⟨adp, hAp, y0, y1⟩ := zb1 HR2.out 0 d9 d9
 cases hAp
 replace y0 : w6.cell? adp = some (.string ⟨#[98]⟩) := by simpa [Addr.add, zaE] using y0
 clear y1
 go_wp2_with fail
 refine (zbl.calls _ 2 (twoL qm ya) ⟨#[66]⟩ [⟨⟨#[120]⟩, ⟨#[105, 110, 116]⟩⟩, ⟨⟨#[121]⟩, ⟨#[65]⟩⟩] _ (HT1.out.below (by repeat (first | exact Below.refl _ _ | refine Below.alloc ?_ s9 _))).tab d9 k9).mono ?_
 rintro e w7 ⟨v, rfl, hRv, hb⟩
 have hbr : Below w6.heap.size w6 w7 := Below.trans (by repeat (first | exact Below.refl _ _ | refine Below.alloc ?_ s9 _)) (hb.mono (by first | exact Nat.le_refl _ | (simp; done) | (simp; omega)))
 replace HB := zaa.mk (HB.out.trans (hbr.mono HB.out.size))
 replace HT1 := zaa.mk (HT1.out.below hbr)
 replace HM := zaa.mk ((hbr.block _ (zaw HM.out)).trans HM.out)
 replace HR2 := zaa.mk (Kd.zax HR2.out hbr)
 obtain ⟨A7, c7, rfl, hc7, hC7⟩ := Kd.zbr hRv
 have HR7 := zaa.mk hC7
 have HL7 := zaa.mk hc7
 clear hRv hC7 hc7 y0 m1 HM HR2
 clear hb hbr
 go_wp2_with fail
 refine (zav.calls 20 _ _ [⟨⟨#[120]⟩, ⟨#[105, 110, 116]⟩⟩, ⟨⟨#[121]⟩, ⟨#[65]⟩⟩] _ 2 [⟨⟨#[120]⟩, ⟨#[105, 110, 116]⟩⟩, ⟨⟨#[121]⟩, ⟨#[65]⟩⟩] true _ (Kd.zax HR7.out (by repeat (first | exact Below.refl _ _ | refine Below.alloc ?_ s9 _))) HL7.out (C_blk k35 (xs := [⟨⟨#[120]⟩, ⟨#[105, 110, 116]⟩⟩, ⟨⟨#[121]⟩, ⟨#[65]⟩⟩]) (by repeat (first | exact at_new _ _ s9 | exact at_new _ _ HSV.out | refine zaK ?_ _)) (Reps2 (zdY _ ⟨⟨#[120]⟩, ⟨#[105, 110, 116]⟩⟩) rfl (zdY _ ⟨⟨#[121]⟩, ⟨#[65]⟩⟩) rfl) s9) d9 k9).mono ?_
 rintro e w8 ⟨rfl, hb⟩
 replace hb := zaP.zgz hb
 have hbr : Below w7.heap.size w7 w8 := Below.trans (by repeat (first | exact Below.refl _ _ | refine Below.alloc ?_ s9 _)) (hb.mono (by first | exact Nat.le_refl _ | (simp; done) | (simp; omega)))
 replace HB := zaa.mk (HB.out.trans (hbr.mono HB.out.size))
 replace HT1 := zaa.mk (HT1.out.below hbr)
 replace HR7 := zaa.mk (Kd.zax HR7.out hbr)
 clear hb hbr
 clear HR7 HL7
 go_wp2_with fail
 refine (zaq.calls 20 _ 2 (twoL qm ya) ⟨#[66]⟩ [⟨⟨#[120]⟩, (-1)⟩, ⟨⟨#[121]⟩, (-1)⟩, ⟨⟨#[109]⟩, 1⟩, ⟨⟨#[110]⟩, 0⟩] _ (HT1.out.below (by repeat (first | exact Below.refl _ _ | refine Below.alloc ?_ s9 _))).tab d9 k9).mono ?_
 rintro e w9 ⟨v, rfl, hRv, hb⟩
 have hbr : Below w8.heap.size w8 w9 := Below.trans (by repeat (first | exact Below.refl _ _ | refine Below.alloc ?_ s9 _)) (hb.mono (by first | exact Nat.le_refl _ | (simp; done) | (simp; omega)))
 replace HB := zaa.mk (HB.out.trans (hbr.mono HB.out.size))
 replace HT1 := zaa.mk (HT1.out.below hbr)
 obtain ⟨A9, c9, rfl, hc9, hC9⟩ := Kd.zbr hRv
 have HR9 := zaa.mk hC9
 have HL9 := zaa.mk hc9
 clear hRv hC9 hc9
 clear hb hbr
 clear HT1
 go_wp2_with fail
 refine (zat.calls 20 _ _ [⟨⟨#[120]⟩, (-1)⟩, ⟨⟨#[121]⟩, (-1)⟩, ⟨⟨#[109]⟩, 1⟩, ⟨⟨#[110]⟩, 0⟩] _ 4 [⟨⟨#[120]⟩, (-1)⟩, ⟨⟨#[121]⟩, (-1)⟩, ⟨⟨#[109]⟩, 1⟩, ⟨⟨#[110]⟩, 0⟩] true _ (Kd.zax HR9.out (by repeat (first | exact Below.refl _ _ | refine Below.alloc ?_ s9 _))) HL9.out (C_blk k42 (xs := [⟨⟨#[120]⟩, (-1)⟩, ⟨⟨#[121]⟩, (-1)⟩, ⟨⟨#[109]⟩, 1⟩, ⟨⟨#[110]⟩, 0⟩]) (by repeat (first | exact at_new _ _ s9 | exact at_new _ _ HSV.out | refine zaK ?_ _)) (((Reps2 (zfX _ ⟨⟨#[120]⟩, (-1)⟩) rfl (zfX _ ⟨⟨#[121]⟩, (-1)⟩) rfl).snoc (zfX _ ⟨⟨#[109]⟩, 1⟩) rfl).snoc (zfX _ ⟨⟨#[110]⟩, 0⟩) rfl) s9) d9 k9).mono ?_
 rintro e w10 ⟨rfl, hb⟩
 replace hb := zaP.zgz hb
 have hbr : Below w9.heap.size w9 w10 := Below.trans (by repeat (first | exact Below.refl _ _ | refine Below.alloc ?_ s9 _)) (hb.mono (by first | exact Nat.le_refl _ | (simp; done) | (simp; omega)))
 replace HB := zaa.mk (HB.out.trans (hbr.mono HB.out.size))
 replace HR9 := zaa.mk (Kd.zax HR9.out hbr)
 clear hb hbr
 clear HR9 HL9
 go_wp2_with fail
 have HBP := zaa.mk HB.out.size
 refine (zcE w10).mono ?_
 rintro e w11 ⟨rfl, hT, hbr⟩
 replace HB := zaa.mk (HB.out.trans (hbr.mono HB.out.size))
 have HT13 := zaa.mk hT
 have HN := zaa.mk (show w10.heap.size + 8 < w11.heap.size from zaw hT.b8)
 have HBN := zaa.mk (show w.heap.size ≤ w10.heap.size from HBP.out)
 clear hT hbr
 go_wp2_with fail
 refine (zcE w11).mono ?_
 rintro e w12 ⟨rfl, hT, hbr⟩
 replace HB := zaa.mk (HB.out.trans (hbr.mono HB.out.size))
 replace HT13 := zaa.mk (HT13.out.below hbr)
 have HT14 := zaa.mk hT
 clear hT hbr
 have a1 := zas HT13.out.b8 7
 have a2 := zas HT13.out.b6 1
 have a3 := zas HT13.out.b5 1
 have a4 := free_at HT13.out.b5 1
 simp only [ga] at a1 a2 a3
 obtain ⟨V1, hV1⟩ : ∃ V1, V1 = w12.setCell ⟨w10.heap.size + 5, 1, none⟩ (.string ⟨#[105, 110, 116]⟩) := ⟨_, rfl⟩
 have HNE := zaa.mk (show w10.heap.size + 8 < w11.heap.size from HN.out)
 have hV13 : TwoAt V1 w10.heap.size ⟨#[105, 110, 116]⟩ ya := by
  rw [hV1]
  exact HT13.out.ty _
 have hV14 : TwoAt V1 w11.heap.size qm ya := by
  rw [hV1]
  exact HT14.out.other (p := ⟨w10.heap.size + 5, 1, none⟩) (by have := HNE.out; simp; omega) _
 have hbV1 : Below w.heap.size w V1 := by
  rw [hV1]
  exact HB.out.setCell (p := ⟨w10.heap.size + 5, 1, none⟩) (by have := HBN.out; simp; omega) _
 have a5 := zas hV14.b8 6
 have a6 := zas hV14.b4 0
 have a7 := free_at hV14.b4 0
 simp only [ga] at a5 a6
 obtain ⟨V2, hV2⟩ : ∃ V2, V2 = V1.setCell ⟨w11.heap.size + 4, 0, none⟩ (.string ⟨#[120]⟩) := ⟨_, rfl⟩
 have hW13 : TwoAt V2 w10.heap.size ⟨#[105, 110, 116]⟩ ya := by
  rw [hV2]
  exact hV13.other (p := ⟨w11.heap.size + 4, 0, none⟩) (by have := HNE.out; simp; omega) _
 have hW14 : TwoAt V2 w11.heap.size qm ⟨#[120]⟩ := by
  rw [hV2]
  exact hV14.nm _
 have hbV2 : Below w.heap.size w V2 := by
  rw [hV2]
  exact hbV1.setCell (p := ⟨w11.heap.size + 4, 0, none⟩) (by have := HBN.out; have := HNE.out; simp; omega) _
 have HSV := zaa.mk (show w12.heap.size = V2.heap.size from by rw [hV2, hV1]; simp [World.setCell])
 replace HB := zaa.mk hbV2
 replace HT13 := zaa.mk hW13
 replace HT14 := zaa.mk hW14
 clear hV13 hV14 hbV1 hW13 hW14 hbV2
 rw [hV1] at a5 a6 a7
 go_wp2_with fail
 rw [← hV1, ← hV2]
 clear hV1 hV2 a1 a2 a3 a4 a5 a6 a7
 refine (zaH.calls 20 8 1 _ 2 [⟨⟨#[65]⟩, ⟨#[]⟩, [], []⟩, ⟨⟨#[65]⟩, ⟨#[]⟩, [], []⟩] true _ (C_blk k45 (xs := [⟨⟨#[65]⟩, ⟨#[]⟩, [], []⟩, ⟨⟨#[65]⟩, ⟨#[]⟩, [], []⟩]) (by repeat (first | exact at_new _ _ s9 | exact at_new _ _ HSV.out | refine zaK ?_ _)) (Reps2 (zdp _ (⟨⟨#[65]⟩, ⟨#[]⟩, [], []⟩ : S45) (Nat.le_refl 0) (show Kd.C k35 _ none 0 [] from ⟨rfl, by decide, fun h => absurd h d9⟩) (Nat.le_refl 0) (show Kd.C k26 _ none 0 [] from ⟨rfl, by decide, fun h => absurd h d9⟩)) rfl (zdp _ (⟨⟨#[65]⟩, ⟨#[]⟩, [], []⟩ : S45) (Nat.le_refl 0) (show Kd.C k35 _ none 0 [] from ⟨rfl, by decide, fun h => absurd h d9⟩) (Nat.le_refl 0) (show Kd.C k26 _ none 0 [] from ⟨rfl, by decide, fun h => absurd h d9⟩)) rfl) s9) d9 k9).mono ?_
 rintro e w13 ⟨rfl, hb⟩
 have hbr : Below V2.heap.size V2 w13 := Below.trans (by repeat (first | exact Below.refl _ _ | refine Below.alloc ?_ s9 _)) (hb.mono (by first | exact Nat.le_refl _ | (simp; done) | (simp; omega)))
 replace HB := zaa.mk (HB.out.trans (hbr.mono HB.out.size))
 replace HT13 := zaa.mk (HT13.out.below hbr)
 replace HT14 := zaa.mk (HT14.out.below hbr)
 clear hb hbr
 go_wp2_with fail
 refine (zaH.calls 20 5 0 _ 1 [⟨⟨#[97]⟩, ⟨#[]⟩, [], []⟩] true _ (C_blk k45 (xs := [⟨⟨#[97]⟩, ⟨#[]⟩, [], []⟩]) (by repeat (first | exact at_new _ _ s9 | exact at_new _ _ HSV.out | refine zaK ?_ _)) (Reps1 (zdp _ (⟨⟨#[97]⟩, ⟨#[]⟩, [], []⟩ : S45) (Nat.le_refl 0) (show Kd.C k35 _ none 0 [] from ⟨rfl, by decide, fun h => absurd h d9⟩) (Nat.le_refl 0) (show Kd.C k26 _ none 0 [] from ⟨rfl, by decide, fun h => absurd h d9⟩)) rfl) s9) d9 k9).mono ?_
 rintro e w14 ⟨rfl, hb⟩
 have hbr : Below w13.heap.size w13 w14 := Below.trans (by repeat (first | exact Below.refl _ _ | refine Below.alloc ?_ s9 _)) (hb.mono (by first | exact Nat.le_refl _ | (simp; done) | (simp; omega)))
 replace HB := zaa.mk (HB.out.trans (hbr.mono HB.out.size))
 replace HT13 := zaa.mk (HT13.out.below hbr)
 replace HT14 := zaa.mk (HT14.out.below hbr)
 clear hb hbr
 go_wp2_with fail
 refine (zaH.calls 20 6 0 _ 1 [⟨⟨#[65]⟩, ⟨#[67]⟩, [], []⟩] true _ (C_blk k45 (xs := [⟨⟨#[65]⟩, ⟨#[67]⟩, [], []⟩]) (by repeat (first | exact at_new _ _ s9 | exact at_new _ _ HSV.out | refine zaK ?_ _)) (Reps1 (zdp _ (⟨⟨#[65]⟩, ⟨#[67]⟩, [], []⟩ : S45) (Nat.le_refl 0) (show Kd.C k35 _ none 0 [] from ⟨rfl, by decide, fun h => absurd h d9⟩) (Nat.le_refl 0) (show Kd.C k26 _ none 0 [] from ⟨rfl, by decide, fun h => absurd h d9⟩)) rfl) s9) d9 k9).mono ?_
 rintro e w15 ⟨rfl, hb⟩
 have hbr : Below w14.heap.size w14 w15 := Below.trans (by repeat (first | exact Below.refl _ _ | refine Below.alloc ?_ s9 _)) (hb.mono (by first | exact Nat.le_refl _ | (simp; done) | (simp; omega)))
 replace HB := zaa.mk (HB.out.trans (hbr.mono HB.out.size))
 replace HT13 := zaa.mk (HT13.out.below hbr)
 replace HT14 := zaa.mk (HT14.out.below hbr)
 clear hb hbr
 go_wp2_with fail
 refine (zaH.calls 20 6 0 _ 1 [⟨⟨#[65]⟩, ⟨#[]⟩, [⟨⟨#[120]⟩, ⟨#[67]⟩⟩], []⟩] true _ (C_blk k45 (xs := [⟨⟨#[65]⟩, ⟨#[]⟩, [⟨⟨#[120]⟩, ⟨#[67]⟩⟩], []⟩]) (by repeat (first | exact at_new _ _ s9 | exact at_new _ _ HSV.out | refine zaK ?_ _)) (Reps1 (zdp _ (⟨⟨#[65]⟩, ⟨#[]⟩, [⟨⟨#[120]⟩, ⟨#[67]⟩⟩], []⟩ : S45) (Nat.le_refl 1) (C_blk k35 (xs := [⟨⟨#[120]⟩, ⟨#[67]⟩⟩]) (by repeat (first | exact at_new _ _ s9 | exact at_new _ _ HSV.out | refine zaK ?_ _)) (Reps1 (zdY _ ⟨⟨#[120]⟩, ⟨#[67]⟩⟩) rfl) s9) (Nat.le_refl 0) (show Kd.C k26 _ none 0 [] from ⟨rfl, by decide, fun h => absurd h d9⟩)) rfl) s9) d9 k9).mono ?_
 rintro e w16 ⟨rfl, hb⟩
 have hbr : Below w15.heap.size w15 w16 := Below.trans (by repeat (first | exact Below.refl _ _ | refine Below.alloc ?_ s9 _)) (hb.mono (by first | exact Nat.le_refl _ | (simp; done) | (simp; omega)))
 replace HB := zaa.mk (HB.out.trans (hbr.mono HB.out.size))
 replace HT13 := zaa.mk (HT13.out.below hbr)
 replace HT14 := zaa.mk (HT14.out.below hbr)
 clear hb hbr
 go_wp2_with fail
 refine (zfp _ (hG.below HB.out)).mono ?_
 rintro e w17 ⟨rfl, hb⟩
 have hbr : Below w16.heap.size w16 w17 := Below.trans (by repeat (first | exact Below.refl _ _ | refine Below.alloc ?_ s9 _)) (hb.mono (by first | exact Nat.le_refl _ | (simp; done) | (simp; omega)))
 replace HB := zaa.mk (HB.out.trans (hbr.mono HB.out.size))
 replace HT13 := zaa.mk (HT13.out.below hbr)
 replace HT14 := zaa.mk (HT14.out.below hbr)
 clear hb hbr
 go_wp2_with fail
 refine (zaH.calls 20 10 1 _ 2 (twoL ⟨#[105, 110, 116]⟩ ya) true _ (HT13.out.below (by repeat (first | exact Below.refl _ _ | refine Below.alloc ?_ s9 _))).tab d9 k9).mono ?_
 rintro e w18 ⟨rfl, hb⟩
 have hbr : Below w17.heap.size w17 w18 := Below.trans (by repeat (first | exact Below.refl _ _ | refine Below.alloc ?_ s9 _)) (hb.mono (by first | exact Nat.le_refl _ | (simp; done) | (simp; omega)))
 replace HB := zaa.mk (HB.out.trans (hbr.mono HB.out.size))
 replace HT13 := zaa.mk (HT13.out.below hbr)
 replace HT14 := zaa.mk (HT14.out.below hbr)
 clear hb hbr
 go_wp2_with fail
 refine (zaH.calls 20 8 1 _ 2 (twoL qm ⟨#[120]⟩) true _ (HT14.out.below (by repeat (first | exact Below.refl _ _ | refine Below.alloc ?_ s9 _))).tab d9 k9).mono ?_
 rintro e w19 ⟨rfl, hb⟩
 have hbr : Below w18.heap.size w18 w19 := Below.trans (by repeat (first | exact Below.refl _ _ | refine Below.alloc ?_ s9 _)) (hb.mono (by first | exact Nat.le_refl _ | (simp; done) | (simp; omega)))
 replace HB := zaa.mk (HB.out.trans (hbr.mono HB.out.size))
 replace HT13 := zaa.mk (HT13.out.below hbr)
 replace HT14 := zaa.mk (HT14.out.below hbr)
 clear hb hbr
 go_wp2_with fail
 go_ret
 exact ⟨rfl, HB.out⟩
end Go.Proofs.YtgcfmllgomikoaaDoorTab
end

section
namespace Go.Proofs.YtgcfmllgomikoaaDoorTab
open Go.RowKit
theorem own0 : ownKnob Tryd.prog.godebug = none := by kernel_rfl
abbrev laidL : List (String × DataW Unit) := [("unicode/utf8.acceptRanges", Go.Proofs.YtgcfmllgomikoaaDoor.Rows.laid_unicode_utf8_acceptRanges), ("unicode.White_Space", Go.Proofs.YtgcfmllgomikoaaDoor.Rows.laid_unicode_White_Space), ("strings.asciiSpace", Go.Proofs.YtgcfmllgomikoaaDoor.Rows.laid_strings_asciiSpace), ("unicode/utf8.first", Go.Proofs.YtgcfmllgomikoaaDoor.Rows.laid_unicode_utf8_first)]
theorem gw_of {W : World} (h : laidMetH Tryd.prog laidL W) : GW W := by
 rw [MakeChecks.laidMetH_plain _ _ _ k9] at h
 have h1 := laidMet.filter (fun x => x.1 == "strings.asciiSpace") h
 have e : (laidL.filter fun x => x.1 == "strings.asciiSpace") = [("strings.asciiSpace", Lib.tabData .u8 ((List.range 256).map ascV))] := by kernel_rfl
 rw [e] at h1
 have hg : Tryd.prog.globalNamed "strings.asciiSpace" = some 0 := by kernel_rfl
 have h2 := Lib.tabIs_of_head (n := 256) hg (t := 115) (e := 5) k9 k9 k9 k9 k9 h1
 refine ⟨fun k hk => ?_⟩
 have h3 := h2.cell hg k (by simpa using hk)
 rw [h3, List.getD_eq_getElem?_getD, List.getElem?_map, List.getElem?_range hk]
 rfl
theorem laid_all (os : Os) (args : Array Value) : laidMetH Tryd.prog laidL ((World.laidAll Tryd.prog os laidL).forCall (fun _ _ => 0) ⟨#[], args, []⟩).memory := by
 rw [MakeChecks.laidMetH_plain _ _ _ k9]
 exact laidMet_laidAll _ k9 k9
end Go.Proofs.YtgcfmllgomikoaaDoorTab
end

section
namespace Go.Proofs.YtgcfmllgomikoaaDoorOpen
open Go.RowKit Go.ChangeShapes Go.WideShapes Go.Deep Go.Proofs.YtgcfmllgomikoaaDoorW.PrintLast Go.Proofs.YtgcfmllgomikoaaDoorW.PrintWords
structure Opens {α : Type} (P : Program) (d : Kd α) (t : TypeId) (wf : α → Prop) : Prop where
 out : ∀ {H : Type} {enc : TypeId × Value → H} {w : World} {base : Nat} {spare : Nat → Bool} {held : Bool} {fuel : Nat} {cs : List Value} {x : DataW H × List MemPlace},
  DataW.trod enc P w base spare held fuel t cs = some x → ∃ v, d.K w v cs ∧ wf v
section
variable {P : Program} {t : TypeId}
theorem zbM (ht : P.underlying t = some .string) : Opens P Kd.string t fun s => s.size ≤ maxLen := by
 refine ⟨?_⟩
 intro H enc w base spare held fuel cs x h
 obtain ⟨s, rfl, _, hs⟩ := DataW.trod_string ht h
 exact ⟨s, rfl, hs⟩
theorem zd4 {α β : Type} {d : Kd α} {wf : α → Prop} (h : Opens P d t wf) {f : β → α} (g : α → β) (hg : ∀ v, f (g v) = v) : Opens P (Kd.iso d f) t fun x => wf (f x) := by
 refine ⟨?_⟩
 intro H enc w base spare held fuel cs x hh
 obtain ⟨v, hv, hw⟩ := h.out hh
 exact ⟨g v, by show d.K w (f (g v)) cs; rw [hg]; exact hv, by show wf (f (g v)); rw [hg]; exact hw⟩
structure zfR {α : Type} (P : Program) (fs : Array Field) (i off total : Nat) (d : Kd α) (wf : α → Prop) : Prop where
 out : ∀ {H : Type} {enc : TypeId × Value → H} {w : World} {base : Nat} {spare : Nat → Bool} {held : Bool} {n : Nat} {cs : List Value}, cs.length = total →
  (∀ (j : Nat) (f : Field), i ≤ j → fs[j]? = some f → ∃ y, DataW.trod enc P w base spare held n f.type ((cs.drop f.offset).take (P.cellsOf f.type)) = some y) → ∃ v, d.K w v (cs.drop off) ∧ wf v
theorem zcZ {α : Type} {fs : Array Field} {i off total : Nat} {d : Kd α} {wf : α → Prop} {f : Field} (hf : fs[i]? = some f) (ho : f.offset = off) (hc : off + P.cellsOf f.type = total) (h : Opens P d f.type wf) : zfR P fs i off total d wf := by
 refine ⟨?_⟩
 intro H enc w base spare held n cs hl hall
 obtain ⟨y, hy⟩ := hall i f (Nat.le_refl _) hf
 rw [ho, List.take_of_length_le (by rw [List.length_drop]; omega)] at hy
 exact h.out hy
theorem zbU {α β : Type} {fs : Array Field} {i off total m : Nat} {d0 : Kd α} {d : Kd β} {wf0 : α → Prop} {wf : β → Prop} {f : Field} (hf : fs[i]? = some f) (ho : f.offset = off) (hc : P.cellsOf f.type = m) (h0 : Opens P d0 f.type wf0)
  (h : zfR P fs (i + 1) (off + m) total d wf) : zfR P fs i off total (Kd.pair d0 d) fun v => wf0 v.1 ∧ wf v.2 := by
 refine ⟨?_⟩
 intro H enc w base spare held n cs hl hall
 obtain ⟨y, hy⟩ := hall i f (Nat.le_refl _) hf
 obtain ⟨v0, hv0, hw0⟩ := h0.out hy
 obtain ⟨v1, hv1, hw1⟩ := h.out hl fun j f hj => hall j f o9
 refine ⟨(v0, v1), ⟨_, _, ?_, hv0, hv1⟩, hw0, hw1⟩
 rw [ho, hc, ← List.drop_drop, List.take_append_drop]
theorem zcH {α : Type} {fs : Array Field} {total : Nat} {d : Kd α} {wf : α → Prop} (ht : P.underlying t = some (.struct fs)) (hc : P.cellsOf t = total) (h : zfR P fs 0 0 total d wf) : Opens P d t wf := by
 refine ⟨?_⟩
 intro H enc w base spare held fuel cs x hh
 obtain ⟨xs, n, _, _, hl, hx, hf⟩ := DataW.trod_struct ht hh
 obtain ⟨v, hv, hw⟩ := h.out (w := w) (cs := cs) (by rw [hl, hc]) fun j f _ hj => ⟨_, (hf j f hj).trans (List.getElem?_eq_getElem (by rw [hx]; exact (Array.getElem?_eq_some_iff.1 hj).1))⟩
 exact ⟨v, by simpa using hv, hw⟩
theorem opens_slice {α : Type} {e : TypeId} {d : Kd α} {wf : α → Prop} (ht : P.underlying t = some (.slice e)) (hc : P.cellsOf e = d.sz) (h : Opens P d e wf) : Opens P (Kd.slice e d) t fun xs => xs.length ≤ maxLen ∧ ∀ x ∈ xs, wf x := by
 refine ⟨?_⟩
 intro H enc w base spare held fuel cs x hh
 rcases open_slice ht hh with ⟨rfl, _⟩ | ⟨a, len, cap, m, n, D, Pl, rfl, _, hl, hm, hmm, _, hi⟩
 ·
  exact ⟨[], ⟨none, 0, rfl, Nat.le_refl _, Kd.C_nil _ _⟩, by simp, by simp⟩
 ·
  have hlm : len ≤ m := by rw [hmm]; split <;> omega
  have hch : ∀ i, i < len → ∃ v, wf v ∧ ∃ cs', d.K w v cs' ∧ ∀ j u, cs'[j]? = some u → w.cell? (a.add (i * d.sz + j)) = some u := by
   intro i hil
   obtain ⟨cs', hc1, hc2⟩ := hi i o9
   obtain ⟨v, hv, hw⟩ := h.out hc2
   obtain ⟨_, hcl, hat⟩ := World.cells?_some hc1
   refine ⟨v, hw, cs', hv, fun j u hu => ?_⟩
   have hj : j < cs'.length := (List.getElem?_eq_some_iff.1 hu).1
   rw [← Go.Deep.add_add, ← hu, ← hc]
   exact hat j o9
  have hall : ∀ k, k ≤ len → ∃ xs : List α, xs.length = k ∧ (∀ x ∈ xs, wf x) ∧ ∀ i v, xs[i]? = some v → ∃ cs', d.K w v cs' ∧ ∀ j u, cs'[j]? = some u → w.cell? (a.add (i * d.sz + j)) = some u := by
   intro k
   induction k with
   | zero => exact fun _ => ⟨[], rfl, by simp, by simp⟩
   | succ k ih =>
    intro hk
    obtain ⟨xs, h1, h2, h3⟩ := ih o9
    obtain ⟨v, hw, hv⟩ := hch k o9
    refine ⟨xs ++ [v], by simp [h1], fun x hx => ?_, fun i u hu => ?_⟩
    ·
     rcases List.mem_append.1 hx with hx | hx
     ·
      exact h2 x hx
     ·
      rw [List.mem_singleton.1 hx]; exact hw
    ·
     rcases Nat.lt_or_ge i xs.length with hi' | hi'
     ·
      rw [List.getElem?_append_left hi'] at hu; exact h3 i u hu
     ·
      rw [List.getElem?_append_right hi'] at hu
      have : i - xs.length = 0 := by
       refine Classical.byContradiction fun hne => ?_
       rw [List.getElem?_eq_none (by simp; omega)] at hu; cases hu
      rw [this] at hu
      obtain rfl : v = u := by simpa using hu
      rw [show i = k by omega]; exact hv
  obtain ⟨xs, h1, h2, h3⟩ := hall len (Nat.le_refl _)
  have hmax : maxLen = 9223372036854775807 := rfl
  refine ⟨xs, ⟨some a, cap, by rw [h1], by omega, ?_⟩, by omega, h2⟩
  rw [h1]
  refine ⟨h1, by omega, fun _ => ⟨a, rfl, fun j p hj => ?_⟩⟩
  obtain ⟨cs', hk, hc'⟩ := h3 j p hj
  exact ⟨cs', d.K_len hk, hk, hc'⟩
theorem opened_slice {α : Type} {e : TypeId} {d : Kd α} {wf : α → Prop} (h : Opens P (Kd.slice e d) t fun xs => xs.length ≤ maxLen ∧ ∀ x ∈ xs, wf x) {H : Type} {enc : TypeId × Value → H} {w : World} {base : Nat} {spare : Nat → Bool} {held : Bool} {a : Option Addr} {len cap : Nat} {y : DataW H} {ps : List MemPlace}
  (hh : DataW.Trod enc P w base spare held t (.slice a len cap) y ps) : ∃ xs : List α, len = xs.length ∧ Kd.C d w a xs.length xs ∧ xs.length ≤ cap ∧ xs.length ≤ maxLen ∧ ∀ x ∈ xs, wf x := by
 obtain ⟨fuel, hf⟩ := hh
 obtain ⟨xs, ⟨A, c, he, hl, hC⟩, hw1, hw2⟩ := h.out hf
 have he' : [Value.slice a len cap] = [Value.slice A xs.length c] := by simpa [Value.cells] using he
 injection he' with he1 _
 injection he1 with e1 e2 e3
 subst e1 e3
 exact ⟨xs, e2, hC, hl, hw1, hw2⟩
end
end Go.Proofs.YtgcfmllgomikoaaDoorOpen
end

section
namespace Go.Proofs.YtgcfmllgomikoaaDoor.PAll
open Go.RowKit Go.Proofs.YtgcfmllgomikoaaDoorW.PrintWords Go.Proofs.YtgcfmllgomikoaaDoorW.PrintLast Go.Proofs.YtgcfmllgomikoaaDoorOpen
def wf35 (x : S35) : Prop := x.f0.size ≤ maxLen ∧ x.f1.size ≤ maxLen
theorem zgO : Opens Tryd.prog k35 35 wf35 := zd4 (f := fun x : S35 => (x.f0, x.f1)) (zcH (total := 2) Tryd.underlying35 k9 (zbU (m := 1) rfl rfl k9 (zbM Tryd.underlying9) (zcZ rfl rfl k9 (zbM Tryd.underlying9)))) (fun v => (⟨v.1, v.2⟩ : S35)) (fun _ => rfl)
def wf26 (x : S26) : Prop := x.f0.size ≤ maxLen ∧ (x.f1.length ≤ maxLen ∧ ∀ yxf1 ∈ x.f1, wf35 yxf1) ∧ x.f2.size ≤ maxLen
theorem zis : Opens Tryd.prog k26 26 wf26 := zd4 (f := fun x : S26 => (x.f0, x.f1, x.f2)) (zcH (total := 3) Tryd.underlying26 k9 (zbU (m := 1) rfl rfl k9 (zbM Tryd.underlying9) (zbU (m := 1) rfl rfl k9 (opens_slice Tryd.underlying24 k9 zgO) (zcZ rfl rfl k9 (zbM Tryd.underlying9))))) (fun v => (⟨v.1, v.2.1, v.2.2⟩ : S26)) (fun _ => rfl)
def wf45 (x : S45) : Prop := x.f0.size ≤ maxLen ∧ x.f1.size ≤ maxLen ∧ (x.f2.length ≤ maxLen ∧ ∀ yxf2 ∈ x.f2, wf35 yxf2) ∧ (x.f3.length ≤ maxLen ∧ ∀ yxf3 ∈ x.f3, wf26 yxf3)
theorem opens45 : Opens Tryd.prog k45 45 wf45 := zd4 (f := fun x : S45 => (x.f0, x.f1, x.f2, x.f3)) (zcH (total := 4) Tryd.underlying45 k9 (zbU (m := 1) rfl rfl k9 (zbM Tryd.underlying9) (zbU (m := 1) rfl rfl k9 (zbM Tryd.underlying9) (zbU (m := 1) rfl rfl k9 (opens_slice Tryd.underlying24 k9 zgO) (zcZ rfl rfl k9 (opens_slice Tryd.underlying43 k9 zis)))))) (fun v => (⟨v.1, v.2.1, v.2.2.1, v.2.2.2⟩ : S45)) (fun _ => rfl)
end Go.Proofs.YtgcfmllgomikoaaDoor.PAll
end

section
namespace Go.Proofs.YtgcfmllgomikoaaDoor.PAll
open Go.RowKit Go.Proofs.YtgcfmllgomikoaaDoorW.PrintWords Go.Proofs.YtgcfmllgomikoaaDoorW.PrintLast Go.Proofs.YtgcfmllgomikoaaDoorW.za2
attribute [local go_sem] zbj zbi zbw zbx za7 za8 zbh zbg
def zaX.f : Option Bool := some true
theorem zaX.calls (r : Bool) (w : World) (h : zaX.f = some r) (hG : Go.Proofs.YtgcfmllgomikoaaDoorTab.GW w := by exact Go.Proofs.YtgcfmllgomikoaaDoorTab.GW.below hG (by repeat (first | (with_reducible first | exact HB.out | apply zaf | apply zad | apply zae) | exact HB.out | exact Below.refl _ _))) :
  Calls Tryd.prog 3 #[] w fun e w' => e = .returned (.bool r) ∧ Below w.heap.size w w' := by
 cases h
 exact Go.Proofs.YtgcfmllgomikoaaDoorTab.zdy w hG
def zao.l0 : Nat → List (S35) → Int → Option (Bool)
 | 0, _, _ => none
 | k + 1, x0, x3 => if x3 < (x0.length : Int) then (if 0 ≤ x3 then (if (((zaE x0 x3).f0).size : Int) > 30 then (some true) else (if (((zaE x0 x3).f1).size : Int) > 30 then (some true) else (zao.l0 k x0 (wrap64 (x3 + 1))))) else (none)) else (some false)
def zao.f (k : Nat) (l0 : List (S35)) : Option (Bool) := zao.l0 k l0 0
theorem zao.zbL : ∀ k, (∀ y0 y1, LeO (zao.l0 k y0 y1) (zao.l0 (k + 1) y0 y1))
 | 0 => fun _ _ r h => by simp [zao.l0] at h
 | k + 1 => by
  have ih0 := zao.zbL k
  ·
   intro y0 y1
   unfold zao.l0
   repeat' first
   | (with_reducible exact ih0 _ _)
   | (with_reducible exact LeO.refl _)
   | (with_reducible exact LeO.none _)
   | (with_reducible refine LeO.ite ?_ ?_)
   | (with_reducible refine LeO.bind ?_ (fun _ => ?_))
   | exact ih0 _ _
   | exact LeO.none _
   | refine LeO.ite ?_ ?_
   | refine LeO.bind ?_ (fun _ => ?_)
theorem zao.mono : ∀ a0 k, LeO (zao.f k a0) (zao.f (k + 1) a0) := by
 intro a0 k
 have ih0 := zao.zbL k
 unfold zao.f
 repeat' first
   | (with_reducible exact ih0 _ _)
   | (with_reducible exact LeO.refl _)
   | (with_reducible exact LeO.none _)
   | (with_reducible refine LeO.ite ?_ ?_)
   | (with_reducible refine LeO.bind ?_ (fun _ => ?_))
   | exact ih0 _ _
   | exact LeO.none _
   | refine LeO.ite ?_ ?_
   | refine LeO.bind ?_ (fun _ => ?_)
theorem zao.calls (k : Nat) (A0 : Option Addr) (c0 : Nat) (l0 : List (S35)) (r : Bool) (w : World) (hr0 : Kd.C k35 w A0 l0.length l0) (hc0 : l0.length ≤ c0) (h : zao.f k l0 = some r) :
  Calls Tryd.prog 34 #[.slice A0 l0.length c0] w fun e w' => e = .returned (.bool r) ∧ zaP w w' := by
 have HR0 := zaa.mk hr0
 have HC0 := zaa.mk hc0
 clear hr0 hc0
 have H : (zao.l0 k l0 0) = some r := h
 clear h
 have H' := zaa.mk H
 clear H
 go_enter Tryd.func34, Tryd.ntmps34
 go_wp2
 go_loopg [3] k (fun kq v3 w' => ∃ (x3_1 : Int), v3 = .int .i64 x3_1 ∧ zaa (zao.l0 kq l0 x3_1 = some r) ∧ zaa (kq ≤ k) ∧ zaP w w')
 case atStart => exact ⟨(0), (by first | rfl | (simp; done) | (simp [*]; done)), H', ⟨Nat.le_refl _⟩, by repeat (first | exact zaP.refl _ | apply zaP.step)⟩
 case round =>
  clear H'
  obtain ⟨x3_1, rfl, HA, HK1, ⟨m1, rfl⟩⟩ := hrel
  cases gk with
  | zero => exact absurd HA.out (by simp [zao.l0])
  | succ k1 =>
   have H := HA.out
   clear HA
   simp only [zao.l0] at H
   by_cases c2 : x3_1 < (l0.length : Int)
   ·
    rw [if_pos c2] at H
    have c2b0 : decide (x3_1 < (l0.length : Int)) = true := decide_eq_true c2
    clear c2
    by_cases c3 : 0 ≤ x3_1
    ·
     rw [if_pos c3] at H
     have c3b0 : decide (0 ≤ x3_1) = true := decide_eq_true c3
     clear c3
     by_cases c4 : (((zaE l0 x3_1).f0).size : Int) > 30
     ·
      rw [if_pos c4] at H
      have c4b0 : decide (30 < (((zaE l0 x3_1).f0).size : Int)) = true := decide_eq_true c4
      have c4b1 : decide (30 < ((zaE l0 x3_1).f0).size) = true := decide_eq_true o9
      clear c4
      obtain rfl := Option.some.inj H
      have p148 : 0 ≤ (x3_1 : Int) := of_decide_eq_true (by first | (with_reducible assumption) | assumption)
      have q148 : x3_1 < (l0.length : Int) := of_decide_eq_true (by first | (with_reducible assumption) | assumption)
      obtain ⟨ad148, e148, hx148_0, hx148_1⟩ := zb1 HR0.out x3_1 p148 q148
      cases e148
      replace p148 := eq_true p148
      replace q148 := eq_true q148
      go_wp2
      go_ret
      exact ⟨by first | rfl | (simp; done) | (simp [*]; done), by repeat (first | exact zaP.refl _ | apply zaP.step)⟩
     ·
      rw [if_neg c4] at H
      have c4b0 : decide (30 < (((zaE l0 x3_1).f0).size : Int)) = false := decide_eq_false c4
      have c4b1 : decide (30 < ((zaE l0 x3_1).f0).size) = false := decide_eq_false o9
      clear c4
      by_cases c5 : (((zaE l0 x3_1).f1).size : Int) > 30
      ·
       rw [if_pos c5] at H
       have c5b0 : decide (30 < (((zaE l0 x3_1).f1).size : Int)) = true := decide_eq_true c5
       have c5b1 : decide (30 < ((zaE l0 x3_1).f1).size) = true := decide_eq_true o9
       clear c5
       obtain rfl := Option.some.inj H
       have p148 : 0 ≤ (x3_1 : Int) := of_decide_eq_true (by first | (with_reducible assumption) | assumption)
       have q148 : x3_1 < (l0.length : Int) := of_decide_eq_true (by first | (with_reducible assumption) | assumption)
       obtain ⟨ad148, e148, hx148_0, hx148_1⟩ := zb1 HR0.out x3_1 p148 q148
       cases e148
       replace p148 := eq_true p148
       replace q148 := eq_true q148
       have p149 : 0 ≤ (x3_1 : Int) := of_decide_eq_true (by first | (with_reducible assumption) | assumption)
       have q149 : x3_1 < (l0.length : Int) := of_decide_eq_true (by first | (with_reducible assumption) | assumption)
       obtain ⟨ad149, e149, hx149_0, hx149_1⟩ := zb1 HR0.out x3_1 p149 q149
       obtain rfl : ad148 = ad149 := (by injection e149)
       replace p149 := eq_true p149
       replace q149 := eq_true q149
       go_wp2
       go_ret
       exact ⟨by first | rfl | (simp; done) | (simp [*]; done), by repeat (first | exact zaP.refl _ | apply zaP.step)⟩
      ·
       rw [if_neg c5] at H
       have c5b0 : decide (30 < (((zaE l0 x3_1).f1).size : Int)) = false := decide_eq_false c5
       have c5b1 : decide (30 < ((zaE l0 x3_1).f1).size) = false := decide_eq_false o9
       clear c5
       have H' := zaa.mk H
       clear H
       have p148 : 0 ≤ (x3_1 : Int) := of_decide_eq_true (by first | (with_reducible assumption) | assumption)
       have q148 : x3_1 < (l0.length : Int) := of_decide_eq_true (by first | (with_reducible assumption) | assumption)
       obtain ⟨ad148, e148, hx148_0, hx148_1⟩ := zb1 HR0.out x3_1 p148 q148
       cases e148
       replace p148 := eq_true p148
       replace q148 := eq_true q148
       have p149 : 0 ≤ (x3_1 : Int) := of_decide_eq_true (by first | (with_reducible assumption) | assumption)
       have q149 : x3_1 < (l0.length : Int) := of_decide_eq_true (by first | (with_reducible assumption) | assumption)
       obtain ⟨ad149, e149, hx149_0, hx149_1⟩ := zb1 HR0.out x3_1 p149 q149
       obtain rfl : ad148 = ad149 := (by injection e149)
       replace p149 := eq_true p149
       replace q149 := eq_true q149
       go_wp2
       go_roundg k1
       case measure => have := HK1.out; omega
       case rel => exact ⟨(wrap64 (x3_1 + 1)), (by first | rfl | (simp; done) | (simp [*]; done)), H', ⟨by have := HK1.out; omega⟩, by repeat (first | exact zaP.refl _ | apply zaP.step)⟩
    ·
     rw [if_neg c3] at H
     exact absurd H s9
   ·
    rw [if_neg c2] at H
    have c2b0 : decide (x3_1 < (l0.length : Int)) = false := decide_eq_false c2
    clear c2
    obtain rfl := Option.some.inj H
    go_wp2
    go_ret
    exact ⟨by first | rfl | (simp; done) | (simp [*]; done), by repeat (first | exact zaP.refl _ | apply zaP.step)⟩
mutual
def zac.l0 : Nat → List (S45) → Int → Option (Bool)
 | 0, _, _ => none
 | k + 1, x0, x3 => if x3 < (x0.length : Int) then (zac.j1 k x0 x3 (decide (x3 < 10))) else (zac.j1 k x0 x3 false)
def zac.j1 : Nat → List (S45) → Int → Bool → Option (Bool)
 | 0, _, _, _ => none
 | k + 1, x0, x3, x14 => if x14 = true then (if 0 ≤ x3 then (if x3 < (x0.length : Int) then (if (((zab x0 x3).f0).size : Int) > 30 then (zac.j2 k x0 x3 true ((zab x0 x3).f0) ((zab x0 x3).f1) ((zab x0 x3).f2) ((zab x0 x3).f3)) else (if (((zab x0 x3).f1).size : Int) > 30 then (zac.j2 k x0 x3 true ((zab x0 x3).f0) ((zab x0 x3).f1) ((zab x0 x3).f2) ((zab x0 x3).f3)) else (if (((zab x0 x3).f2).length : Int) > 7 then (zac.j2 k x0 x3 true ((zab x0 x3).f0) ((zab x0 x3).f1) ((zab x0 x3).f2) ((zab x0 x3).f3)) else (if (((zab x0 x3).f3).length : Int) > 7 then (zac.j2 k x0 x3 true ((zab x0 x3).f0) ((zab x0 x3).f1) ((zab x0 x3).f2) ((zab x0 x3).f3)) else ((zao.f k ((zab x0 x3).f2)).bind fun t152 => (zac.j2 k x0 x3 t152 ((zab x0 x3).f0) ((zab x0 x3).f1) ((zab x0 x3).f2) ((zab x0 x3).f3))))))) else (none)) else (none)) else (some (decide ((x0.length : Int) > 9)))
def zac.j2 : Nat → List (S45) → Int → Bool → ByteArray → ByteArray → List (S35) → List (S26) → Option (Bool)
 | 0, _, _, _, _, _, _, _ => none
 | k + 1, x0, x3, x47, x152000, x152001, x152002, x152003 => if x47 = true then (some true) else (zac.l1 k x0 x3 0 x152000 x152001 x152002 x152003)
def zac.l1 : Nat → List (S45) → Int → Int → ByteArray → ByteArray → List (S35) → List (S26) → Option (Bool)
 | 0, _, _, _, _, _, _, _ => none
 | k + 1, x0, x3, x5, x152000, x152001, x152002, x152003 => if x5 < (x152003.length : Int) then (if 0 ≤ x5 then (if (((zaF x152003 x5).f0).size : Int) > 30 then (some true) else (if (((zaF x152003 x5).f2).size : Int) > 30 then (some true) else (if (((zaF x152003 x5).f1).length : Int) > 10 then (some true) else ((zao.f k ((zaF x152003 x5).f1)).bind fun t155 => (if t155 = true then (some true) else (zac.l1 k x0 x3 (wrap64 (x5 + 1)) x152000 x152001 x152002 x152003)))))) else (none)) else (zac.l0 k x0 (wrap64 (x3 + 1)))
end
def zac.f (k : Nat) (l0 : List (S45)) : Option (Bool) := zac.l0 k l0 0
theorem zac.zbL : ∀ k, (∀ y0 y1, LeO (zac.l0 k y0 y1) (zac.l0 (k + 1) y0 y1)) ∧ (∀ y0 y1 y2, LeO (zac.j1 k y0 y1 y2) (zac.j1 (k + 1) y0 y1 y2)) ∧ (∀ y0 y1 y2 y3 y4 y5 y6, LeO (zac.j2 k y0 y1 y2 y3 y4 y5 y6) (zac.j2 (k + 1) y0 y1 y2 y3 y4 y5 y6)) ∧ (∀ y0 y1 y2 y3 y4 y5 y6, LeO (zac.l1 k y0 y1 y2 y3 y4 y5 y6) (zac.l1 (k + 1) y0 y1 y2 y3 y4 y5 y6))
 | 0 => ⟨fun _ _ r h => by simp [zac.l0] at h, fun _ _ _ r h => by simp [zac.j1] at h, fun _ _ _ _ _ _ _ r h => by simp [zac.j2] at h, fun _ _ _ _ _ _ _ r h => by simp [zac.l1] at h⟩
 | k + 1 => by
  obtain ⟨ih0, ih1, ih2, ih3⟩ := zac.zbL k
  refine ⟨?_, ?_, ?_, ?_⟩
  ·
   intro y0 y1
   unfold zac.l0
   repeat' first
   | (with_reducible exact ih0 _ _)
   | (with_reducible exact ih1 _ _ _)
   | (with_reducible exact ih2 _ _ _ _ _ _ _)
   | (with_reducible exact ih3 _ _ _ _ _ _ _)
   | (with_reducible exact zao.mono _ _)
   | (with_reducible exact LeO.refl _)
   | (with_reducible exact LeO.none _)
   | (with_reducible refine LeO.ite ?_ ?_)
   | (with_reducible refine LeO.bind ?_ (fun _ => ?_))
   | exact ih0 _ _
   | exact ih1 _ _ _
   | exact ih2 _ _ _ _ _ _ _
   | exact ih3 _ _ _ _ _ _ _
   | exact zao.mono _ _
   | exact LeO.none _
   | refine LeO.ite ?_ ?_
   | refine LeO.bind ?_ (fun _ => ?_)
  ·
   intro y0 y1 y2
   unfold zac.j1
   repeat' first
   | (with_reducible exact ih0 _ _)
   | (with_reducible exact ih1 _ _ _)
   | (with_reducible exact ih2 _ _ _ _ _ _ _)
   | (with_reducible exact ih3 _ _ _ _ _ _ _)
   | (with_reducible exact zao.mono _ _)
   | (with_reducible exact LeO.refl _)
   | (with_reducible exact LeO.none _)
   | (with_reducible refine LeO.ite ?_ ?_)
   | (with_reducible refine LeO.bind ?_ (fun _ => ?_))
   | exact ih0 _ _
   | exact ih1 _ _ _
   | exact ih2 _ _ _ _ _ _ _
   | exact ih3 _ _ _ _ _ _ _
   | exact zao.mono _ _
   | exact LeO.none _
   | refine LeO.ite ?_ ?_
   | refine LeO.bind ?_ (fun _ => ?_)
  ·
   intro y0 y1 y2 y3 y4 y5 y6
   unfold zac.j2
   repeat' first
   | (with_reducible exact ih0 _ _)
   | (with_reducible exact ih1 _ _ _)
   | (with_reducible exact ih2 _ _ _ _ _ _ _)
   | (with_reducible exact ih3 _ _ _ _ _ _ _)
   | (with_reducible exact zao.mono _ _)
   | (with_reducible exact LeO.refl _)
   | (with_reducible exact LeO.none _)
   | (with_reducible refine LeO.ite ?_ ?_)
   | (with_reducible refine LeO.bind ?_ (fun _ => ?_))
   | exact ih0 _ _
   | exact ih1 _ _ _
   | exact ih2 _ _ _ _ _ _ _
   | exact ih3 _ _ _ _ _ _ _
   | exact zao.mono _ _
   | exact LeO.none _
   | refine LeO.ite ?_ ?_
   | refine LeO.bind ?_ (fun _ => ?_)
  ·
   intro y0 y1 y2 y3 y4 y5 y6
   unfold zac.l1
   repeat' first
   | (with_reducible exact ih0 _ _)
   | (with_reducible exact ih1 _ _ _)
   | (with_reducible exact ih2 _ _ _ _ _ _ _)
   | (with_reducible exact ih3 _ _ _ _ _ _ _)
   | (with_reducible exact zao.mono _ _)
   | (with_reducible exact LeO.refl _)
   | (with_reducible exact LeO.none _)
   | (with_reducible refine LeO.ite ?_ ?_)
   | (with_reducible refine LeO.bind ?_ (fun _ => ?_))
   | exact ih0 _ _
   | exact ih1 _ _ _
   | exact ih2 _ _ _ _ _ _ _
   | exact ih3 _ _ _ _ _ _ _
   | exact zao.mono _ _
   | exact LeO.none _
   | refine LeO.ite ?_ ?_
   | refine LeO.bind ?_ (fun _ => ?_)
theorem zac.mono : ∀ a0 k, LeO (zac.f k a0) (zac.f (k + 1) a0) := by
 intro a0 k
 obtain ⟨ih0, ih1, ih2, ih3⟩ := zac.zbL k
 unfold zac.f
 repeat' first
   | (with_reducible exact ih0 _ _)
   | (with_reducible exact ih1 _ _ _)
   | (with_reducible exact ih2 _ _ _ _ _ _ _)
   | (with_reducible exact ih3 _ _ _ _ _ _ _)
   | (with_reducible exact zao.mono _ _)
   | (with_reducible exact LeO.refl _)
   | (with_reducible exact LeO.none _)
   | (with_reducible refine LeO.ite ?_ ?_)
   | (with_reducible refine LeO.bind ?_ (fun _ => ?_))
   | exact ih0 _ _
   | exact ih1 _ _ _
   | exact ih2 _ _ _ _ _ _ _
   | exact ih3 _ _ _ _ _ _ _
   | exact zao.mono _ _
   | exact LeO.none _
   | refine LeO.ite ?_ ?_
   | refine LeO.bind ?_ (fun _ => ?_)
theorem zac.calls (k : Nat) (A0 : Option Addr) (c0 : Nat) (l0 : List (S45)) (r : Bool) (w : World) (hr0 : Kd.C k45 w A0 l0.length l0) (hc0 : l0.length ≤ c0) (h : zac.f k l0 = some r) :
  Calls Tryd.prog 17 #[.slice A0 l0.length c0] w fun e w' => e = .returned (.bool r) ∧ Below w.heap.size w w' := by
 have hu45 := Tryd.underlying45
 have hu26 := Tryd.underlying26
 have HR0 := zaa.mk hr0
 have HC0 := zaa.mk hc0
 clear hr0 hc0
 have HB := zaa.mk (Below.refl w.heap.size w)
 have H : (zac.l0 k l0 0) = some r := h
 clear h
 have H' := zaa.mk H
 clear H
 go_enter Tryd.func17, Tryd.ntmps17
 go_wp2
 go_loopg [3] k (fun kq v3 w' => ∃ (x3_1 : Int), v3 = .int .i64 x3_1 ∧ zaa (zac.l0 kq l0 x3_1 = some r) ∧ zaa (kq ≤ k) ∧ zaa (Below w.heap.size w w'))
 case atStart => exact ⟨(0), (by first | rfl | (simp; done) | (simp [*]; done)), H', ⟨Nat.le_refl _⟩, ⟨by repeat (first | (with_reducible first | exact HB.out | apply zaf | apply zad | apply zae) | exact HB.out)⟩⟩
 case round =>
  clear H'
  try clear c1
  obtain ⟨x3_1, rfl, HA, HK1, HB⟩ := hrel
  cases gk with
  | zero => exact absurd HA.out (by simp [zac.l0])
  | succ k1 =>
   have H := HA.out
   clear HA
   simp only [zac.l0] at H
   have HC2 := zaa.mk H
   clear H
   go_upto_region 2 with (fail)
   go_cut [14] (fun v14 wc => ∃ (kq : Nat) (x14_1 : Bool), v14 = .bool x14_1 ∧ zaa (zac.j1 kq l0 x3_1 x14_1 = some r) ∧ zaa (kq ≤ k1) ∧ zaa (Below w.heap.size w wc))
   case first =>
    have H := HC2.out
    clear HC2
    by_cases c3 : x3_1 < (l0.length : Int)
    ·
     rw [if_pos c3] at H
     have c3b0 : decide (x3_1 < (l0.length : Int)) = true := decide_eq_true c3
     clear c3
     (first | rw [c3b0] | (simp only [i64_w, i32_w]; rw [c3b0]) | skip)
     have H' := zaa.mk H
     clear H
     go_wp2
     go_meet
     case rel => exact ⟨_, (decide (x3_1 < 10)), (by first | rfl | (simp; done) | (simp [*]; done)), H', ⟨by have := HK1.out; first | omega | exact Nat.le_refl _⟩, ⟨by repeat (first | (with_reducible first | exact HB.out | apply zaf | apply zad | apply zae) | exact HB.out)⟩⟩
    ·
     rw [if_neg c3] at H
     have c3b0 : decide (x3_1 < (l0.length : Int)) = false := decide_eq_false c3
     clear c3
     (first | rw [c3b0] | (simp only [i64_w, i32_w]; rw [c3b0]) | skip)
     have H' := zaa.mk H
     clear H
     go_wp2
     go_meet
     case rel => exact ⟨_, (false), (by first | rfl | (simp; done) | (simp [*]; done)), H', ⟨by have := HK1.out; first | omega | exact Nat.le_refl _⟩, ⟨by repeat (first | (with_reducible first | exact HB.out | apply zaf | apply zad | apply zae) | exact HB.out)⟩⟩
   case rest =>
    clear HC2
    try clear c1
    try clear p2
    try clear c3
    try clear c3b0
    obtain ⟨kq, x14_1, rfl, HA, HJ1, HB⟩ := hcut
    cases kq with
    | zero => exact absurd HA.out (by simp [zac.j1])
    | succ kj1 =>
     have H := HA.out
     clear HA
     simp only [zac.j1] at H
     by_cases c4 : x14_1 = true
     ·
      subst c4
      have H1 : (if 0 ≤ x3_1 then (if x3_1 < (l0.length : Int) then (if (((zab l0 x3_1).f0).size : Int) > 30 then (zac.j2 kj1 l0 x3_1 true ((zab l0 x3_1).f0) ((zab l0 x3_1).f1) ((zab l0 x3_1).f2) ((zab l0 x3_1).f3)) else (if (((zab l0 x3_1).f1).size : Int) > 30 then (zac.j2 kj1 l0 x3_1 true ((zab l0 x3_1).f0) ((zab l0 x3_1).f1) ((zab l0 x3_1).f2) ((zab l0 x3_1).f3)) else (if (((zab l0 x3_1).f2).length : Int) > 7 then (zac.j2 kj1 l0 x3_1 true ((zab l0 x3_1).f0) ((zab l0 x3_1).f1) ((zab l0 x3_1).f2) ((zab l0 x3_1).f3)) else (if (((zab l0 x3_1).f3).length : Int) > 7 then (zac.j2 kj1 l0 x3_1 true ((zab l0 x3_1).f0) ((zab l0 x3_1).f1) ((zab l0 x3_1).f2) ((zab l0 x3_1).f3)) else ((zao.f kj1 ((zab l0 x3_1).f2)).bind fun t152 => (zac.j2 kj1 l0 x3_1 t152 ((zab l0 x3_1).f0) ((zab l0 x3_1).f1) ((zab l0 x3_1).f2) ((zab l0 x3_1).f3))))))) else (none)) else (none)) = some r := by rw [if_pos rfl] at H; exact H
      clear H
      have H := H1
      clear H1
      by_cases c5 : 0 ≤ x3_1
      ·
       rw [if_pos c5] at H
       have c5b0 : decide (0 ≤ x3_1) = true := decide_eq_true c5
       clear c5
       by_cases c6 : x3_1 < (l0.length : Int)
       ·
        rw [if_pos c6] at H
        have c6b0 : decide (x3_1 < (l0.length : Int)) = true := decide_eq_true c6
        clear c6
        have HC7 := zaa.mk H
        clear H
        have p150 : 0 ≤ (x3_1 : Int) := of_decide_eq_true (by first | (with_reducible assumption) | assumption)
        have q150 : x3_1 < (l0.length : Int) := of_decide_eq_true (by first | (with_reducible assumption) | assumption)
        obtain ⟨ad150, A150_2, c150_2, A150_3, c150_3, e150, hx150_0, hx150_1, hx150_2, hx150_3, hl150_2, hi150_2, hl150_3, hi150_3⟩ := zbY HR0.out x3_1 p150 q150
        cases e150
        replace hx150_0 := (HB.out.cell (World.block_lt_of_cell? w _ hx150_0)).trans hx150_0
        replace hx150_1 := (HB.out.cell (World.block_lt_of_cell? w _ hx150_1)).trans hx150_1
        replace hx150_2 := (HB.out.cell (World.block_lt_of_cell? w _ hx150_2)).trans hx150_2
        replace hx150_3 := (HB.out.cell (World.block_lt_of_cell? w _ hx150_3)).trans hx150_3
        have HR150_2 := zaa.mk hi150_2
        have HC150_2 := zaa.mk hl150_2
        clear hi150_2 hl150_2
        have HR150_3 := zaa.mk hi150_3
        have HC150_3 := zaa.mk hl150_3
        clear hi150_3 hl150_3
        replace p150 := eq_true p150
        replace q150 := eq_true q150
        go_upto_region 5 with (first | ((with_reducible refine zbF (N := 4) rfl ?_); (try (refine zbV (by rfl) ?_; dsimp only)); refine zbP ?hg (N := 4) ?hd (cs := #[.string (⟨#[]⟩ : ByteArray), .string (⟨#[]⟩ : ByteArray), .slice none 0 0, .slice none 0 0]) (t := 45) ?hr ?_; (case hd => rfl); (case hg => rfl); (case hr => first | (go_simp; done) | (go_simp; rfl)); intro gb151 hg w8 hbox hb; have n0_ := zaa.mk (zaL (by repeat (first | (with_reducible first | exact HB.out | apply zaf | apply zad | apply zae) | exact HB.out)) hb); have n1_ := zaa.mk (hbox); have n2_ := zaa.mk ((by rw [hg]; exact (zaD (by repeat (first | (with_reducible first | exact HB.out | apply zaf | apply zad | apply zae) | exact HB.out))) : w.heap.size ≤ gb151)); have n3_ := zaa.mk ((by rw [hg]; exact (zaD (by repeat (first | (with_reducible first | exact HB.out | apply zaf | apply zad | apply zae) | exact HB.out))) : w.heap.size ≤ gb151)); clear HB; have HB := n0_; have BK151 := n1_; have GW151 := n2_; have GE151 := n3_; clear n0_ n1_ n2_ n3_; clear hb hbox hg; have hcz9_0 : w8.cell? ⟨gb151, 0, none⟩ = some (.string (⟨#[]⟩ : ByteArray)) := (zai BK151.out 0).trans rfl; have hcz9_1 : w8.cell? ⟨gb151, 1, none⟩ = some (.string (⟨#[]⟩ : ByteArray)) := (zai BK151.out 1).trans rfl; have hcz9_2 : w8.cell? ⟨gb151, 2, none⟩ = some (.slice none 0 0) := (zai BK151.out 2).trans rfl; have hcz9_3 : w8.cell? ⟨gb151, 3, none⟩ = some (.slice none 0 0) := (zai BK151.out 3).trans rfl; have hfz9_0 := zal BK151.out 0; have hfz9_1 := zal BK151.out 1; have hfz9_2 := zal BK151.out 2; have hfz9_3 := zal BK151.out 3))
        (try simp only [Act.put, List.setIfInBounds_toArray, List.set_cons_zero, List.set_cons_succ])
        go_cut [47] (fun v47 wc => ∃ (kq : Nat) (x47_6 : Bool), v47 = .bool x47_6 ∧ zaa (zac.j2 kq l0 x3_1 x47_6 ((zab l0 x3_1).f0) ((zab l0 x3_1).f1) ((zab l0 x3_1).f2) ((zab l0 x3_1).f3) = some r) ∧ zaa (kq ≤ kj1) ∧ zaa (wc.heap[gb151]? = some (.cells #[.string ((zab l0 x3_1).f0), .string ((zab l0 x3_1).f1), (.slice A150_2 ((zab l0 x3_1).f2).length c150_2), (.slice A150_3 ((zab l0 x3_1).f3).length c150_3)] 45 (0, 0))) ∧ zaa (Below w.heap.size w wc))
        case first =>
         have H := HC7.out
         clear HC7
         by_cases c10 : (((zab l0 x3_1).f0).size : Int) > 30
         ·
          rw [if_pos c10] at H
          have c10b0 : decide (30 < (((zab l0 x3_1).f0).size : Int)) = true := decide_eq_true c10
          have c10b1 : decide (30 < ((zab l0 x3_1).f0).size) = true := decide_eq_true o9
          clear c10
          (first | rw [c10b0] | (simp only [i64_w, i32_w]; rw [c10b0]) | skip)
          have H' := zaa.mk H
          clear H
          have hcz11_0 : w8.cell? ⟨gb151, 0, none⟩ = some (.string (⟨#[]⟩ : ByteArray)) := (zai BK151.out 0).trans rfl
          have hcz11_1 : w8.cell? ⟨gb151, 1, none⟩ = some (.string (⟨#[]⟩ : ByteArray)) := (zai BK151.out 1).trans rfl
          have hcz11_2 : w8.cell? ⟨gb151, 2, none⟩ = some (.slice none 0 0) := (zai BK151.out 2).trans rfl
          have hcz11_3 : w8.cell? ⟨gb151, 3, none⟩ = some (.slice none 0 0) := (zai BK151.out 3).trans rfl
          have hfz11_0 := zal BK151.out 0
          have hfz11_1 := zal BK151.out 1
          have hfz11_2 := zal BK151.out 2
          have hfz11_3 := zal BK151.out 3
          go_wp2
          go_meet
          case rel => exact ⟨_, (true), (by first | rfl | (simp; done) | (simp [*]; done)), H', ⟨by have := HK1.out; have := HJ1.out; first | omega | exact Nat.le_refl _⟩, ⟨by (with_reducible repeat (first | refine zaj ?_ _ | refine zan ?_ | refine zak ?_ _)); refine zay (cs := #[.string ((zab l0 x3_1).f0), .string ((zab l0 x3_1).f1), .slice A150_2 ((zab l0 x3_1).f2).length c150_2, .slice none 0 0]) ?_ 3 _ rfl; (with_reducible repeat (first | refine zaj ?_ _ | refine zan ?_ | refine zak ?_ _)); refine zay (cs := #[.string ((zab l0 x3_1).f0), .string ((zab l0 x3_1).f1), .slice none 0 0, .slice none 0 0]) ?_ 2 _ rfl; (with_reducible repeat (first | refine zaj ?_ _ | refine zan ?_ | refine zak ?_ _)); refine zay (cs := #[.string ((zab l0 x3_1).f0), .string (⟨#[]⟩ : ByteArray), .slice none 0 0, .slice none 0 0]) ?_ 1 _ rfl; (with_reducible repeat (first | refine zaj ?_ _ | refine zan ?_ | refine zak ?_ _)); refine zay (cs := #[.string (⟨#[]⟩ : ByteArray), .string (⟨#[]⟩ : ByteArray), .slice none 0 0, .slice none 0 0]) ?_ 0 _ rfl; (with_reducible repeat (first | refine zaj ?_ _ | refine zan ?_ | refine zak ?_ _)); exact BK151.out⟩, ⟨by repeat (first | (with_reducible first | exact HB.out | apply zaf | apply zad | apply zae | refine zah ?_ GE151.out) | exact HB.out)⟩⟩
         ·
          rw [if_neg c10] at H
          have c10b0 : decide (30 < (((zab l0 x3_1).f0).size : Int)) = false := decide_eq_false c10
          have c10b1 : decide (30 < ((zab l0 x3_1).f0).size) = false := decide_eq_false o9
          clear c10
          (first | rw [c10b0] | (simp only [i64_w, i32_w]; rw [c10b0]) | skip)
          by_cases c12 : (((zab l0 x3_1).f1).size : Int) > 30
          ·
           rw [if_pos c12] at H
           have c12b0 : decide (30 < (((zab l0 x3_1).f1).size : Int)) = true := decide_eq_true c12
           have c12b1 : decide (30 < ((zab l0 x3_1).f1).size) = true := decide_eq_true o9
           clear c12
           have H' := zaa.mk H
           clear H
           have hcz13_0 : w8.cell? ⟨gb151, 0, none⟩ = some (.string (⟨#[]⟩ : ByteArray)) := (zai BK151.out 0).trans rfl
           have hcz13_1 : w8.cell? ⟨gb151, 1, none⟩ = some (.string (⟨#[]⟩ : ByteArray)) := (zai BK151.out 1).trans rfl
           have hcz13_2 : w8.cell? ⟨gb151, 2, none⟩ = some (.slice none 0 0) := (zai BK151.out 2).trans rfl
           have hcz13_3 : w8.cell? ⟨gb151, 3, none⟩ = some (.slice none 0 0) := (zai BK151.out 3).trans rfl
           have hfz13_0 := zal BK151.out 0
           have hfz13_1 := zal BK151.out 1
           have hfz13_2 := zal BK151.out 2
           have hfz13_3 := zal BK151.out 3
           go_wp2
           go_meet
           case rel => exact ⟨_, (true), (by first | rfl | (simp; done) | (simp [*]; done)), H', ⟨by have := HK1.out; have := HJ1.out; first | omega | exact Nat.le_refl _⟩, ⟨by (with_reducible repeat (first | refine zaj ?_ _ | refine zan ?_ | refine zak ?_ _)); refine zay (cs := #[.string ((zab l0 x3_1).f0), .string ((zab l0 x3_1).f1), .slice A150_2 ((zab l0 x3_1).f2).length c150_2, .slice none 0 0]) ?_ 3 _ rfl; (with_reducible repeat (first | refine zaj ?_ _ | refine zan ?_ | refine zak ?_ _)); refine zay (cs := #[.string ((zab l0 x3_1).f0), .string ((zab l0 x3_1).f1), .slice none 0 0, .slice none 0 0]) ?_ 2 _ rfl; (with_reducible repeat (first | refine zaj ?_ _ | refine zan ?_ | refine zak ?_ _)); refine zay (cs := #[.string ((zab l0 x3_1).f0), .string (⟨#[]⟩ : ByteArray), .slice none 0 0, .slice none 0 0]) ?_ 1 _ rfl; (with_reducible repeat (first | refine zaj ?_ _ | refine zan ?_ | refine zak ?_ _)); refine zay (cs := #[.string (⟨#[]⟩ : ByteArray), .string (⟨#[]⟩ : ByteArray), .slice none 0 0, .slice none 0 0]) ?_ 0 _ rfl; (with_reducible repeat (first | refine zaj ?_ _ | refine zan ?_ | refine zak ?_ _)); exact BK151.out⟩, ⟨by repeat (first | (with_reducible first | exact HB.out | apply zaf | apply zad | apply zae | refine zah ?_ GE151.out) | exact HB.out)⟩⟩
          ·
           rw [if_neg c12] at H
           have c12b0 : decide (30 < (((zab l0 x3_1).f1).size : Int)) = false := decide_eq_false c12
           have c12b1 : decide (30 < ((zab l0 x3_1).f1).size) = false := decide_eq_false o9
           clear c12
           by_cases c14 : (((zab l0 x3_1).f2).length : Int) > 7
           ·
            rw [if_pos c14] at H
            have c14b0 : decide (7 < (((zab l0 x3_1).f2).length : Int)) = true := decide_eq_true c14
            have c14b1 : decide (7 < ((zab l0 x3_1).f2).length) = true := decide_eq_true o9
            clear c14
            have H' := zaa.mk H
            clear H
            have hcz15_0 : w8.cell? ⟨gb151, 0, none⟩ = some (.string (⟨#[]⟩ : ByteArray)) := (zai BK151.out 0).trans rfl
            have hcz15_1 : w8.cell? ⟨gb151, 1, none⟩ = some (.string (⟨#[]⟩ : ByteArray)) := (zai BK151.out 1).trans rfl
            have hcz15_2 : w8.cell? ⟨gb151, 2, none⟩ = some (.slice none 0 0) := (zai BK151.out 2).trans rfl
            have hcz15_3 : w8.cell? ⟨gb151, 3, none⟩ = some (.slice none 0 0) := (zai BK151.out 3).trans rfl
            have hfz15_0 := zal BK151.out 0
            have hfz15_1 := zal BK151.out 1
            have hfz15_2 := zal BK151.out 2
            have hfz15_3 := zal BK151.out 3
            go_wp2
            go_meet
            case rel => exact ⟨_, (true), (by first | rfl | (simp; done) | (simp [*]; done)), H', ⟨by have := HK1.out; have := HJ1.out; first | omega | exact Nat.le_refl _⟩, ⟨by (with_reducible repeat (first | refine zaj ?_ _ | refine zan ?_ | refine zak ?_ _)); refine zay (cs := #[.string ((zab l0 x3_1).f0), .string ((zab l0 x3_1).f1), .slice A150_2 ((zab l0 x3_1).f2).length c150_2, .slice none 0 0]) ?_ 3 _ rfl; (with_reducible repeat (first | refine zaj ?_ _ | refine zan ?_ | refine zak ?_ _)); refine zay (cs := #[.string ((zab l0 x3_1).f0), .string ((zab l0 x3_1).f1), .slice none 0 0, .slice none 0 0]) ?_ 2 _ rfl; (with_reducible repeat (first | refine zaj ?_ _ | refine zan ?_ | refine zak ?_ _)); refine zay (cs := #[.string ((zab l0 x3_1).f0), .string (⟨#[]⟩ : ByteArray), .slice none 0 0, .slice none 0 0]) ?_ 1 _ rfl; (with_reducible repeat (first | refine zaj ?_ _ | refine zan ?_ | refine zak ?_ _)); refine zay (cs := #[.string (⟨#[]⟩ : ByteArray), .string (⟨#[]⟩ : ByteArray), .slice none 0 0, .slice none 0 0]) ?_ 0 _ rfl; (with_reducible repeat (first | refine zaj ?_ _ | refine zan ?_ | refine zak ?_ _)); exact BK151.out⟩, ⟨by repeat (first | (with_reducible first | exact HB.out | apply zaf | apply zad | apply zae | refine zah ?_ GE151.out) | exact HB.out)⟩⟩
           ·
            rw [if_neg c14] at H
            have c14b0 : decide (7 < (((zab l0 x3_1).f2).length : Int)) = false := decide_eq_false c14
            have c14b1 : decide (7 < ((zab l0 x3_1).f2).length) = false := decide_eq_false o9
            clear c14
            by_cases c16 : (((zab l0 x3_1).f3).length : Int) > 7
            ·
             rw [if_pos c16] at H
             have c16b0 : decide (7 < (((zab l0 x3_1).f3).length : Int)) = true := decide_eq_true c16
             have c16b1 : decide (7 < ((zab l0 x3_1).f3).length) = true := decide_eq_true o9
             clear c16
             have H' := zaa.mk H
             clear H
             have hcz17_0 : w8.cell? ⟨gb151, 0, none⟩ = some (.string (⟨#[]⟩ : ByteArray)) := (zai BK151.out 0).trans rfl
             have hcz17_1 : w8.cell? ⟨gb151, 1, none⟩ = some (.string (⟨#[]⟩ : ByteArray)) := (zai BK151.out 1).trans rfl
             have hcz17_2 : w8.cell? ⟨gb151, 2, none⟩ = some (.slice none 0 0) := (zai BK151.out 2).trans rfl
             have hcz17_3 : w8.cell? ⟨gb151, 3, none⟩ = some (.slice none 0 0) := (zai BK151.out 3).trans rfl
             have hfz17_0 := zal BK151.out 0
             have hfz17_1 := zal BK151.out 1
             have hfz17_2 := zal BK151.out 2
             have hfz17_3 := zal BK151.out 3
             go_wp2
             go_meet
             case rel => exact ⟨_, (true), (by first | rfl | (simp; done) | (simp [*]; done)), H', ⟨by have := HK1.out; have := HJ1.out; first | omega | exact Nat.le_refl _⟩, ⟨by (with_reducible repeat (first | refine zaj ?_ _ | refine zan ?_ | refine zak ?_ _)); refine zay (cs := #[.string ((zab l0 x3_1).f0), .string ((zab l0 x3_1).f1), .slice A150_2 ((zab l0 x3_1).f2).length c150_2, .slice none 0 0]) ?_ 3 _ rfl; (with_reducible repeat (first | refine zaj ?_ _ | refine zan ?_ | refine zak ?_ _)); refine zay (cs := #[.string ((zab l0 x3_1).f0), .string ((zab l0 x3_1).f1), .slice none 0 0, .slice none 0 0]) ?_ 2 _ rfl; (with_reducible repeat (first | refine zaj ?_ _ | refine zan ?_ | refine zak ?_ _)); refine zay (cs := #[.string ((zab l0 x3_1).f0), .string (⟨#[]⟩ : ByteArray), .slice none 0 0, .slice none 0 0]) ?_ 1 _ rfl; (with_reducible repeat (first | refine zaj ?_ _ | refine zan ?_ | refine zak ?_ _)); refine zay (cs := #[.string (⟨#[]⟩ : ByteArray), .string (⟨#[]⟩ : ByteArray), .slice none 0 0, .slice none 0 0]) ?_ 0 _ rfl; (with_reducible repeat (first | refine zaj ?_ _ | refine zan ?_ | refine zak ?_ _)); exact BK151.out⟩, ⟨by repeat (first | (with_reducible first | exact HB.out | apply zaf | apply zad | apply zae | refine zah ?_ GE151.out) | exact HB.out)⟩⟩
            ·
             rw [if_neg c16] at H
             have c16b0 : decide (7 < (((zab l0 x3_1).f3).length : Int)) = false := decide_eq_false c16
             have c16b1 : decide (7 < ((zab l0 x3_1).f3).length) = false := decide_eq_false o9
             clear c16
             replace H := Option.bind_eq_some_iff.mp H
             obtain ⟨t152, A180, H⟩ := H
             replace H : (zac.j2 kj1 l0 x3_1 t152 ((zab l0 x3_1).f0) ((zab l0 x3_1).f1) ((zab l0 x3_1).f2) ((zab l0 x3_1).f3)) = some r := H
             have A18 := zaa.mk A180
             clear A180
             have H' := zaa.mk H
             clear H
             have hcz19_0 : w8.cell? ⟨gb151, 0, none⟩ = some (.string (⟨#[]⟩ : ByteArray)) := (zai BK151.out 0).trans rfl
             have hcz19_1 : w8.cell? ⟨gb151, 1, none⟩ = some (.string (⟨#[]⟩ : ByteArray)) := (zai BK151.out 1).trans rfl
             have hcz19_2 : w8.cell? ⟨gb151, 2, none⟩ = some (.slice none 0 0) := (zai BK151.out 2).trans rfl
             have hcz19_3 : w8.cell? ⟨gb151, 3, none⟩ = some (.slice none 0 0) := (zai BK151.out 3).trans rfl
             have hfz19_0 := zal BK151.out 0
             have hfz19_1 := zal BK151.out 1
             have hfz19_2 := zal BK151.out 2
             have hfz19_3 := zal BK151.out 3
             go_wp2_with (first | (go_at_call 34; (with_reducible refine (zao.calls kj1 _ _ ((zab l0 x3_1).f2) t152 _ ?side1 ?side2 A18.out).mono ?_); (case side1 => exact Kd.zax HR150_2.out (by repeat (first | (with_reducible first | exact HB.out | apply zaf | apply zad | apply zae | refine zah ?_ GE151.out) | exact HB.out))); (case side2 => exact HC150_2.out); rintro e w' ⟨rfl, ⟨nd, rfl⟩⟩))
             go_meet
             case rel => exact ⟨_, (t152), (by first | rfl | (simp; done) | (simp [*]; done)), H', ⟨by have := HK1.out; have := HJ1.out; first | omega | exact Nat.le_refl _⟩, ⟨by (with_reducible repeat (first | refine zaj ?_ _ | refine zan ?_ | refine zak ?_ _)); refine zay (cs := #[.string ((zab l0 x3_1).f0), .string ((zab l0 x3_1).f1), .slice A150_2 ((zab l0 x3_1).f2).length c150_2, .slice none 0 0]) ?_ 3 _ rfl; (with_reducible repeat (first | refine zaj ?_ _ | refine zan ?_ | refine zak ?_ _)); refine zay (cs := #[.string ((zab l0 x3_1).f0), .string ((zab l0 x3_1).f1), .slice none 0 0, .slice none 0 0]) ?_ 2 _ rfl; (with_reducible repeat (first | refine zaj ?_ _ | refine zan ?_ | refine zak ?_ _)); refine zay (cs := #[.string ((zab l0 x3_1).f0), .string (⟨#[]⟩ : ByteArray), .slice none 0 0, .slice none 0 0]) ?_ 1 _ rfl; (with_reducible repeat (first | refine zaj ?_ _ | refine zan ?_ | refine zak ?_ _)); refine zay (cs := #[.string (⟨#[]⟩ : ByteArray), .string (⟨#[]⟩ : ByteArray), .slice none 0 0, .slice none 0 0]) ?_ 0 _ rfl; (with_reducible repeat (first | refine zaj ?_ _ | refine zan ?_ | refine zak ?_ _)); exact BK151.out⟩, ⟨by repeat (first | (with_reducible first | exact HB.out | apply zaf | apply zad | apply zae | refine zah ?_ GE151.out) | exact HB.out)⟩⟩
        case rest =>
         clear HC7
         try clear c1
         try clear p1
         try clear q1
         try clear hx1
         try clear p2
         try clear c3
         try clear c3b0
         try clear c4
         try clear c5
         try clear c5b0
         try clear c6
         try clear c6b0
         try clear c10
         try clear c10b0
         try clear c10b1
         try clear c12
         try clear c12b0
         try clear c12b1
         try clear c14
         try clear c14b0
         try clear c14b1
         try clear c15
         try clear p15
         try clear q15
         try clear hx15
         try clear c16
         try clear c16b0
         try clear c16b1
         try clear c17
         try clear hcz11_0
         try clear hcz11_1
         try clear hcz11_2
         try clear hcz11_3
         try clear hcz13_0
         try clear hcz13_1
         try clear hcz13_2
         try clear hcz13_3
         try clear hcz15_0
         try clear hcz15_1
         try clear hcz15_2
         try clear hcz15_3
         try clear hcz17_0
         try clear hcz17_1
         try clear hcz17_2
         try clear hcz17_3
         try clear hcz19_0
         try clear hcz19_1
         try clear hcz19_2
         try clear hcz19_3
         try clear hcz9_0
         try clear hcz9_1
         try clear hcz9_2
         try clear hcz9_3
         try clear hfz11_0
         try clear hfz11_1
         try clear hfz11_2
         try clear hfz11_3
         try clear hfz13_0
         try clear hfz13_1
         try clear hfz13_2
         try clear hfz13_3
         try clear hfz15_0
         try clear hfz15_1
         try clear hfz15_2
         try clear hfz15_3
         try clear hfz17_0
         try clear hfz17_1
         try clear hfz17_2
         try clear hfz17_3
         try clear hfz19_0
         try clear hfz19_1
         try clear hfz19_2
         try clear hfz19_3
         try clear hfz9_0
         try clear hfz9_1
         try clear hfz9_2
         try clear hfz9_3
         try clear hx150_0
         try clear hx150_1
         try clear hx150_2
         try clear hx150_3
         try clear p150
         try clear p2
         try clear q150
         obtain ⟨kq, x47_6, rfl, HA, HJ6, BK151, HB⟩ := hcut
         cases kq with
         | zero => exact absurd HA.out (by simp [zac.j2])
         | succ kj6 =>
          have H := HA.out
          clear HA
          simp only [zac.j2] at H
          by_cases c20 : x47_6 = true
          ·
           subst c20
           have H1 : (some true) = some r := by rw [if_pos rfl] at H; exact H
           clear H
           have H := H1
           clear H1
           obtain rfl := Option.some.inj H
           go_wp2
           go_ret
           exact ⟨by first | rfl | (simp [zaV, zaW] <;> rfl) | (simp [*, zaV, zaW] <;> rfl), by repeat (first | (with_reducible first | exact HB.out | apply zaf | apply zad | apply zae | refine zah ?_ GE151.out) | exact HB.out)⟩
          ·
           replace c20 := Bool.eq_false_iff.mpr c20
           subst c20
           have H1 : (zac.l1 kj6 l0 x3_1 0 ((zab l0 x3_1).f0) ((zab l0 x3_1).f1) ((zab l0 x3_1).f2) ((zab l0 x3_1).f3)) = some r := by rw [if_neg (show ¬ (false = true) by decide)] at H; exact H
           clear H
           have H := H1
           clear H1
           have H' := zaa.mk H
           clear H
           go_wp2
           go_loopg [5] kj6 (fun kq v5 w' => ∃ (x5_4 : Int), v5 = .int .i64 x5_4 ∧ zaa (zac.l1 kq l0 x3_1 x5_4 ((zab l0 x3_1).f0) ((zab l0 x3_1).f1) ((zab l0 x3_1).f2) ((zab l0 x3_1).f3) = some r) ∧ zaa (kq ≤ kj6) ∧ zaa (w'.heap[gb151]? = some (.cells #[.string ((zab l0 x3_1).f0), .string ((zab l0 x3_1).f1), (.slice A150_2 ((zab l0 x3_1).f2).length c150_2), (.slice A150_3 ((zab l0 x3_1).f3).length c150_3)] 45 (0, 0))) ∧ zaa (Below w.heap.size w w'))
           case atStart => exact ⟨(0), (by first | rfl | (simp; done) | (simp [*]; done)), H', ⟨Nat.le_refl _⟩, ⟨by (with_reducible repeat (first | refine zaj ?_ _ | refine zan ?_ | refine zak ?_ _)); exact BK151.out⟩, ⟨by repeat (first | (with_reducible first | exact HB.out | apply zaf | apply zad | apply zae | refine zah ?_ GE151.out) | exact HB.out)⟩⟩
           case round =>
            clear H'
            try clear c1
            try clear p1
            try clear q1
            try clear hx1
            try clear c2
            try clear p2
            try clear c3
            try clear c3b0
            try clear c4
            try clear c5
            try clear c5b0
            try clear c6
            try clear c6b0
            try clear c10
            try clear c10b0
            try clear c10b1
            try clear c12
            try clear c12b0
            try clear c12b1
            try clear c14
            try clear c14b0
            try clear c14b1
            try clear c15
            try clear p15
            try clear q15
            try clear hx15
            try clear c16
            try clear c16b0
            try clear c16b1
            try clear c17
            try clear c20
            try clear hcz11_0
            try clear hcz11_1
            try clear hcz11_2
            try clear hcz11_3
            try clear hcz13_0
            try clear hcz13_1
            try clear hcz13_2
            try clear hcz13_3
            try clear hcz15_0
            try clear hcz15_1
            try clear hcz15_2
            try clear hcz15_3
            try clear hcz17_0
            try clear hcz17_1
            try clear hcz17_2
            try clear hcz17_3
            try clear hcz19_0
            try clear hcz19_1
            try clear hcz19_2
            try clear hcz19_3
            try clear hcz9_0
            try clear hcz9_1
            try clear hcz9_2
            try clear hcz9_3
            try clear hfz11_0
            try clear hfz11_1
            try clear hfz11_2
            try clear hfz11_3
            try clear hfz13_0
            try clear hfz13_1
            try clear hfz13_2
            try clear hfz13_3
            try clear hfz15_0
            try clear hfz15_1
            try clear hfz15_2
            try clear hfz15_3
            try clear hfz17_0
            try clear hfz17_1
            try clear hfz17_2
            try clear hfz17_3
            try clear hfz19_0
            try clear hfz19_1
            try clear hfz19_2
            try clear hfz19_3
            try clear hfz9_0
            try clear hfz9_1
            try clear hfz9_2
            try clear hfz9_3
            try clear hx150_0
            try clear hx150_1
            try clear hx150_2
            try clear hx150_3
            try clear p1
            try clear p15
            try clear p150
            try clear p2
            try clear q1
            try clear q15
            try clear q150
            obtain ⟨x5_4, rfl, HA, HK4, BK151, HB⟩ := hrel
            cases gk with
            | zero => exact absurd HA.out (by simp [zac.l1])
            | succ k4 =>
             have H := HA.out
             clear HA
             simp only [zac.l1] at H
             by_cases c21 : x5_4 < (((zab l0 x3_1).f3).length : Int)
             ·
              rw [if_pos c21] at H
              have c21b0 : decide (x5_4 < (((zab l0 x3_1).f3).length : Int)) = true := decide_eq_true c21
              clear c21
              by_cases c22 : 0 ≤ x5_4
              ·
               rw [if_pos c22] at H
               have c22b0 : decide (0 ≤ x5_4) = true := decide_eq_true c22
               clear c22
               by_cases c23 : (((zaF ((zab l0 x3_1).f3) x5_4).f0).size : Int) > 30
               ·
                rw [if_pos c23] at H
                have c23b0 : decide (30 < (((zaF ((zab l0 x3_1).f3) x5_4).f0).size : Int)) = true := decide_eq_true c23
                have c23b1 : decide (30 < ((zaF ((zab l0 x3_1).f3) x5_4).f0).size) = true := decide_eq_true o9
                clear c23
                obtain rfl := Option.some.inj H
                have hcz24_0 : wr.cell? ⟨gb151, 0, none⟩ = some (.string ((zab l0 x3_1).f0)) := (zai BK151.out 0).trans rfl
                have hcz24_1 : wr.cell? ⟨gb151, 1, none⟩ = some (.string ((zab l0 x3_1).f1)) := (zai BK151.out 1).trans rfl
                have hcz24_2 : wr.cell? ⟨gb151, 2, none⟩ = some (.slice A150_2 ((zab l0 x3_1).f2).length c150_2) := (zai BK151.out 2).trans rfl
                have hcz24_3 : wr.cell? ⟨gb151, 3, none⟩ = some (.slice A150_3 ((zab l0 x3_1).f3).length c150_3) := (zai BK151.out 3).trans rfl
                have hfz24_0 := zal BK151.out 0
                have hfz24_1 := zal BK151.out 1
                have hfz24_2 := zal BK151.out 2
                have hfz24_3 := zal BK151.out 3
                have p153 : 0 ≤ (x5_4 : Int) := of_decide_eq_true (by first | (with_reducible assumption) | assumption)
                have q153 : x5_4 < (((zab l0 x3_1).f3).length : Int) := of_decide_eq_true (by first | (with_reducible assumption) | assumption)
                obtain ⟨ad153, A153_1, c153_1, e153, hx153_0, hx153_1, hx153_2, hl153_1, hi153_1⟩ := zcz HR150_3.out x5_4 p153 q153
                cases e153
                replace hx153_0 := (HB.out.cell (World.block_lt_of_cell? w _ hx153_0)).trans hx153_0
                replace hx153_1 := (HB.out.cell (World.block_lt_of_cell? w _ hx153_1)).trans hx153_1
                replace hx153_2 := (HB.out.cell (World.block_lt_of_cell? w _ hx153_2)).trans hx153_2
                have HR153_1 := zaa.mk hi153_1
                have HC153_1 := zaa.mk hl153_1
                clear hi153_1 hl153_1
                replace p153 := eq_true p153
                replace q153 := eq_true q153
                go_wp2_with (first | ((with_reducible refine zbF (N := 6) rfl ?_); (try (refine zbV (by rfl) ?_; dsimp only)); refine zbP ?hg (N := 6) ?hd (cs := #[.string (⟨#[]⟩ : ByteArray), .slice none 0 0, .string (⟨#[]⟩ : ByteArray)]) (t := 26) ?hr ?_; (case hd => rfl); (case hg => rfl); (case hr => first | (go_simp; done) | (go_simp; rfl)); intro gb154 hg w25 hbox hb; have n0_ := zaa.mk (zaU (g := gb151) (o := .cells #[.string ((zab l0 x3_1).f0), .string ((zab l0 x3_1).f1), .slice A150_2 ((zab l0 x3_1).f2).length c150_2, .slice (some ad153) ((zab l0 x3_1).f3).length c150_3] 45 (0, 0)) (by (with_reducible repeat (first | refine zaj ?_ _ | refine zan ?_ | refine zak ?_ _)); exact BK151.out) hb); have n1_ := zaa.mk (zaL (by repeat (first | (with_reducible first | exact HB.out | apply zaf | apply zad | apply zae | refine zah ?_ GE151.out) | exact HB.out)) hb); have n2_ := zaa.mk (hbox); have n3_ := zaa.mk ((by rw [hg]; exact (zaD (by repeat (first | (with_reducible first | exact HB.out | apply zaf | apply zad | apply zae | refine zah ?_ GE151.out) | exact HB.out))) : w.heap.size ≤ gb154)); have n4_ := zaa.mk ((by rw [hg]; exact (zaD (by repeat (first | (with_reducible first | exact HB.out | apply zaf | apply zad | apply zae | refine zah ?_ GE151.out) | exact HB.out))) : w.heap.size ≤ gb154)); have n5_ := zaa.mk ((by rw [hg]; exact Nat.ne_of_lt (zbu (g := gb151) (o := .cells #[.string ((zab l0 x3_1).f0), .string ((zab l0 x3_1).f1), .slice A150_2 ((zab l0 x3_1).f2).length c150_2, .slice (some ad153) ((zab l0 x3_1).f3).length c150_3] 45 (0, 0)) (by (with_reducible repeat (first | refine zaj ?_ _ | refine zan ?_ | refine zak ?_ _)); exact BK151.out)) : gb151 ≠ gb154)); have n6_ := zaa.mk ((by rw [hg]; exact Nat.ne_of_gt (zbu (g := gb151) (o := .cells #[.string ((zab l0 x3_1).f0), .string ((zab l0 x3_1).f1), .slice A150_2 ((zab l0 x3_1).f2).length c150_2, .slice (some ad153) ((zab l0 x3_1).f3).length c150_3] 45 (0, 0)) (by (with_reducible repeat (first | refine zaj ?_ _ | refine zan ?_ | refine zak ?_ _)); exact BK151.out)) : gb154 ≠ gb151)); clear BK151; clear HB; have BK151 := n0_; have HB := n1_; have BK154 := n2_; have GW154 := n3_; have GE154 := n4_; have NB151_154 := n5_; have NB154_151 := n6_; clear n0_ n1_ n2_ n3_ n4_ n5_ n6_; clear hb hbox hg; have hnb26 := NB154_151.out; have hnc26 := NB151_154.out; have hcz27_0 : w25.cell? ⟨gb154, 0, none⟩ = some (.string (⟨#[]⟩ : ByteArray)) := (zai BK154.out 0).trans rfl; have hcz27_1 : w25.cell? ⟨gb154, 1, none⟩ = some (.slice none 0 0) := (zai BK154.out 1).trans rfl; have hcz27_2 : w25.cell? ⟨gb154, 2, none⟩ = some (.string (⟨#[]⟩ : ByteArray)) := (zai BK154.out 2).trans rfl; have hfz27_0 := zal BK154.out 0; have hfz27_1 := zal BK154.out 1; have hfz27_2 := zal BK154.out 2))
                go_ret
                exact ⟨by first | rfl | (simp [zaV, zaW] <;> rfl) | (simp [*, zaV, zaW] <;> rfl), by repeat (first | (with_reducible first | exact HB.out | apply zaf | apply zad | apply zae | refine zah ?_ GE151.out | refine zah ?_ GE154.out) | exact HB.out)⟩
               ·
                rw [if_neg c23] at H
                have c23b0 : decide (30 < (((zaF ((zab l0 x3_1).f3) x5_4).f0).size : Int)) = false := decide_eq_false c23
                have c23b1 : decide (30 < ((zaF ((zab l0 x3_1).f3) x5_4).f0).size) = false := decide_eq_false o9
                clear c23
                by_cases c28 : (((zaF ((zab l0 x3_1).f3) x5_4).f2).size : Int) > 30
                ·
                 rw [if_pos c28] at H
                 have c28b0 : decide (30 < (((zaF ((zab l0 x3_1).f3) x5_4).f2).size : Int)) = true := decide_eq_true c28
                 have c28b1 : decide (30 < ((zaF ((zab l0 x3_1).f3) x5_4).f2).size) = true := decide_eq_true o9
                 clear c28
                 obtain rfl := Option.some.inj H
                 have hcz29_0 : wr.cell? ⟨gb151, 0, none⟩ = some (.string ((zab l0 x3_1).f0)) := (zai BK151.out 0).trans rfl
                 have hcz29_1 : wr.cell? ⟨gb151, 1, none⟩ = some (.string ((zab l0 x3_1).f1)) := (zai BK151.out 1).trans rfl
                 have hcz29_2 : wr.cell? ⟨gb151, 2, none⟩ = some (.slice A150_2 ((zab l0 x3_1).f2).length c150_2) := (zai BK151.out 2).trans rfl
                 have hcz29_3 : wr.cell? ⟨gb151, 3, none⟩ = some (.slice A150_3 ((zab l0 x3_1).f3).length c150_3) := (zai BK151.out 3).trans rfl
                 have hfz29_0 := zal BK151.out 0
                 have hfz29_1 := zal BK151.out 1
                 have hfz29_2 := zal BK151.out 2
                 have hfz29_3 := zal BK151.out 3
                 have p153 : 0 ≤ (x5_4 : Int) := of_decide_eq_true (by first | (with_reducible assumption) | assumption)
                 have q153 : x5_4 < (((zab l0 x3_1).f3).length : Int) := of_decide_eq_true (by first | (with_reducible assumption) | assumption)
                 obtain ⟨ad153, A153_1, c153_1, e153, hx153_0, hx153_1, hx153_2, hl153_1, hi153_1⟩ := zcz HR150_3.out x5_4 p153 q153
                 cases e153
                 replace hx153_0 := (HB.out.cell (World.block_lt_of_cell? w _ hx153_0)).trans hx153_0
                 replace hx153_1 := (HB.out.cell (World.block_lt_of_cell? w _ hx153_1)).trans hx153_1
                 replace hx153_2 := (HB.out.cell (World.block_lt_of_cell? w _ hx153_2)).trans hx153_2
                 have HR153_1 := zaa.mk hi153_1
                 have HC153_1 := zaa.mk hl153_1
                 clear hi153_1 hl153_1
                 replace p153 := eq_true p153
                 replace q153 := eq_true q153
                 go_wp2_with (first | ((with_reducible refine zbF (N := 6) rfl ?_); (try (refine zbV (by rfl) ?_; dsimp only)); refine zbP ?hg (N := 6) ?hd (cs := #[.string (⟨#[]⟩ : ByteArray), .slice none 0 0, .string (⟨#[]⟩ : ByteArray)]) (t := 26) ?hr ?_; (case hd => rfl); (case hg => rfl); (case hr => first | (go_simp; done) | (go_simp; rfl)); intro gb154 hg w30 hbox hb; have n0_ := zaa.mk (zaU (g := gb151) (o := .cells #[.string ((zab l0 x3_1).f0), .string ((zab l0 x3_1).f1), .slice A150_2 ((zab l0 x3_1).f2).length c150_2, .slice (some ad153) ((zab l0 x3_1).f3).length c150_3] 45 (0, 0)) (by (with_reducible repeat (first | refine zaj ?_ _ | refine zan ?_ | refine zak ?_ _)); exact BK151.out) hb); have n1_ := zaa.mk (zaL (by repeat (first | (with_reducible first | exact HB.out | apply zaf | apply zad | apply zae | refine zah ?_ GE151.out) | exact HB.out)) hb); have n2_ := zaa.mk (hbox); have n3_ := zaa.mk ((by rw [hg]; exact (zaD (by repeat (first | (with_reducible first | exact HB.out | apply zaf | apply zad | apply zae | refine zah ?_ GE151.out) | exact HB.out))) : w.heap.size ≤ gb154)); have n4_ := zaa.mk ((by rw [hg]; exact (zaD (by repeat (first | (with_reducible first | exact HB.out | apply zaf | apply zad | apply zae | refine zah ?_ GE151.out) | exact HB.out))) : w.heap.size ≤ gb154)); have n5_ := zaa.mk ((by rw [hg]; exact Nat.ne_of_lt (zbu (g := gb151) (o := .cells #[.string ((zab l0 x3_1).f0), .string ((zab l0 x3_1).f1), .slice A150_2 ((zab l0 x3_1).f2).length c150_2, .slice (some ad153) ((zab l0 x3_1).f3).length c150_3] 45 (0, 0)) (by (with_reducible repeat (first | refine zaj ?_ _ | refine zan ?_ | refine zak ?_ _)); exact BK151.out)) : gb151 ≠ gb154)); have n6_ := zaa.mk ((by rw [hg]; exact Nat.ne_of_gt (zbu (g := gb151) (o := .cells #[.string ((zab l0 x3_1).f0), .string ((zab l0 x3_1).f1), .slice A150_2 ((zab l0 x3_1).f2).length c150_2, .slice (some ad153) ((zab l0 x3_1).f3).length c150_3] 45 (0, 0)) (by (with_reducible repeat (first | refine zaj ?_ _ | refine zan ?_ | refine zak ?_ _)); exact BK151.out)) : gb154 ≠ gb151)); clear BK151; clear HB; have BK151 := n0_; have HB := n1_; have BK154 := n2_; have GW154 := n3_; have GE154 := n4_; have NB151_154 := n5_; have NB154_151 := n6_; clear n0_ n1_ n2_ n3_ n4_ n5_ n6_; clear hb hbox hg; have hnb31 := NB154_151.out; have hnc31 := NB151_154.out; have hcz32_0 : w30.cell? ⟨gb154, 0, none⟩ = some (.string (⟨#[]⟩ : ByteArray)) := (zai BK154.out 0).trans rfl; have hcz32_1 : w30.cell? ⟨gb154, 1, none⟩ = some (.slice none 0 0) := (zai BK154.out 1).trans rfl; have hcz32_2 : w30.cell? ⟨gb154, 2, none⟩ = some (.string (⟨#[]⟩ : ByteArray)) := (zai BK154.out 2).trans rfl; have hfz32_0 := zal BK154.out 0; have hfz32_1 := zal BK154.out 1; have hfz32_2 := zal BK154.out 2))
                 go_ret
                 exact ⟨by first | rfl | (simp [zaV, zaW] <;> rfl) | (simp [*, zaV, zaW] <;> rfl), by repeat (first | (with_reducible first | exact HB.out | apply zaf | apply zad | apply zae | refine zah ?_ GE151.out | refine zah ?_ GE154.out) | exact HB.out)⟩
                ·
                 rw [if_neg c28] at H
                 have c28b0 : decide (30 < (((zaF ((zab l0 x3_1).f3) x5_4).f2).size : Int)) = false := decide_eq_false c28
                 have c28b1 : decide (30 < ((zaF ((zab l0 x3_1).f3) x5_4).f2).size) = false := decide_eq_false o9
                 clear c28
                 by_cases c33 : (((zaF ((zab l0 x3_1).f3) x5_4).f1).length : Int) > 10
                 ·
                  rw [if_pos c33] at H
                  have c33b0 : decide (10 < (((zaF ((zab l0 x3_1).f3) x5_4).f1).length : Int)) = true := decide_eq_true c33
                  have c33b1 : decide (10 < ((zaF ((zab l0 x3_1).f3) x5_4).f1).length) = true := decide_eq_true o9
                  clear c33
                  obtain rfl := Option.some.inj H
                  have hcz34_0 : wr.cell? ⟨gb151, 0, none⟩ = some (.string ((zab l0 x3_1).f0)) := (zai BK151.out 0).trans rfl
                  have hcz34_1 : wr.cell? ⟨gb151, 1, none⟩ = some (.string ((zab l0 x3_1).f1)) := (zai BK151.out 1).trans rfl
                  have hcz34_2 : wr.cell? ⟨gb151, 2, none⟩ = some (.slice A150_2 ((zab l0 x3_1).f2).length c150_2) := (zai BK151.out 2).trans rfl
                  have hcz34_3 : wr.cell? ⟨gb151, 3, none⟩ = some (.slice A150_3 ((zab l0 x3_1).f3).length c150_3) := (zai BK151.out 3).trans rfl
                  have hfz34_0 := zal BK151.out 0
                  have hfz34_1 := zal BK151.out 1
                  have hfz34_2 := zal BK151.out 2
                  have hfz34_3 := zal BK151.out 3
                  have p153 : 0 ≤ (x5_4 : Int) := of_decide_eq_true (by first | (with_reducible assumption) | assumption)
                  have q153 : x5_4 < (((zab l0 x3_1).f3).length : Int) := of_decide_eq_true (by first | (with_reducible assumption) | assumption)
                  obtain ⟨ad153, A153_1, c153_1, e153, hx153_0, hx153_1, hx153_2, hl153_1, hi153_1⟩ := zcz HR150_3.out x5_4 p153 q153
                  cases e153
                  replace hx153_0 := (HB.out.cell (World.block_lt_of_cell? w _ hx153_0)).trans hx153_0
                  replace hx153_1 := (HB.out.cell (World.block_lt_of_cell? w _ hx153_1)).trans hx153_1
                  replace hx153_2 := (HB.out.cell (World.block_lt_of_cell? w _ hx153_2)).trans hx153_2
                  have HR153_1 := zaa.mk hi153_1
                  have HC153_1 := zaa.mk hl153_1
                  clear hi153_1 hl153_1
                  replace p153 := eq_true p153
                  replace q153 := eq_true q153
                  go_wp2_with (first | ((with_reducible refine zbF (N := 6) rfl ?_); (try (refine zbV (by rfl) ?_; dsimp only)); refine zbP ?hg (N := 6) ?hd (cs := #[.string (⟨#[]⟩ : ByteArray), .slice none 0 0, .string (⟨#[]⟩ : ByteArray)]) (t := 26) ?hr ?_; (case hd => rfl); (case hg => rfl); (case hr => first | (go_simp; done) | (go_simp; rfl)); intro gb154 hg w35 hbox hb; have n0_ := zaa.mk (zaU (g := gb151) (o := .cells #[.string ((zab l0 x3_1).f0), .string ((zab l0 x3_1).f1), .slice A150_2 ((zab l0 x3_1).f2).length c150_2, .slice (some ad153) ((zab l0 x3_1).f3).length c150_3] 45 (0, 0)) (by (with_reducible repeat (first | refine zaj ?_ _ | refine zan ?_ | refine zak ?_ _)); exact BK151.out) hb); have n1_ := zaa.mk (zaL (by repeat (first | (with_reducible first | exact HB.out | apply zaf | apply zad | apply zae | refine zah ?_ GE151.out) | exact HB.out)) hb); have n2_ := zaa.mk (hbox); have n3_ := zaa.mk ((by rw [hg]; exact (zaD (by repeat (first | (with_reducible first | exact HB.out | apply zaf | apply zad | apply zae | refine zah ?_ GE151.out) | exact HB.out))) : w.heap.size ≤ gb154)); have n4_ := zaa.mk ((by rw [hg]; exact (zaD (by repeat (first | (with_reducible first | exact HB.out | apply zaf | apply zad | apply zae | refine zah ?_ GE151.out) | exact HB.out))) : w.heap.size ≤ gb154)); have n5_ := zaa.mk ((by rw [hg]; exact Nat.ne_of_lt (zbu (g := gb151) (o := .cells #[.string ((zab l0 x3_1).f0), .string ((zab l0 x3_1).f1), .slice A150_2 ((zab l0 x3_1).f2).length c150_2, .slice (some ad153) ((zab l0 x3_1).f3).length c150_3] 45 (0, 0)) (by (with_reducible repeat (first | refine zaj ?_ _ | refine zan ?_ | refine zak ?_ _)); exact BK151.out)) : gb151 ≠ gb154)); have n6_ := zaa.mk ((by rw [hg]; exact Nat.ne_of_gt (zbu (g := gb151) (o := .cells #[.string ((zab l0 x3_1).f0), .string ((zab l0 x3_1).f1), .slice A150_2 ((zab l0 x3_1).f2).length c150_2, .slice (some ad153) ((zab l0 x3_1).f3).length c150_3] 45 (0, 0)) (by (with_reducible repeat (first | refine zaj ?_ _ | refine zan ?_ | refine zak ?_ _)); exact BK151.out)) : gb154 ≠ gb151)); clear BK151; clear HB; have BK151 := n0_; have HB := n1_; have BK154 := n2_; have GW154 := n3_; have GE154 := n4_; have NB151_154 := n5_; have NB154_151 := n6_; clear n0_ n1_ n2_ n3_ n4_ n5_ n6_; clear hb hbox hg; have hnb36 := NB154_151.out; have hnc36 := NB151_154.out; have hcz37_0 : w35.cell? ⟨gb154, 0, none⟩ = some (.string (⟨#[]⟩ : ByteArray)) := (zai BK154.out 0).trans rfl; have hcz37_1 : w35.cell? ⟨gb154, 1, none⟩ = some (.slice none 0 0) := (zai BK154.out 1).trans rfl; have hcz37_2 : w35.cell? ⟨gb154, 2, none⟩ = some (.string (⟨#[]⟩ : ByteArray)) := (zai BK154.out 2).trans rfl; have hfz37_0 := zal BK154.out 0; have hfz37_1 := zal BK154.out 1; have hfz37_2 := zal BK154.out 2))
                  go_ret
                  exact ⟨by first | rfl | (simp [zaV, zaW] <;> rfl) | (simp [*, zaV, zaW] <;> rfl), by repeat (first | (with_reducible first | exact HB.out | apply zaf | apply zad | apply zae | refine zah ?_ GE151.out | refine zah ?_ GE154.out) | exact HB.out)⟩
                 ·
                  rw [if_neg c33] at H
                  have c33b0 : decide (10 < (((zaF ((zab l0 x3_1).f3) x5_4).f1).length : Int)) = false := decide_eq_false c33
                  have c33b1 : decide (10 < ((zaF ((zab l0 x3_1).f3) x5_4).f1).length) = false := decide_eq_false o9
                  clear c33
                  replace H := Option.bind_eq_some_iff.mp H
                  obtain ⟨t155, A380, H⟩ := H
                  replace H : (if t155 = true then (some true) else (zac.l1 k4 l0 x3_1 (wrap64 (x5_4 + 1)) ((zab l0 x3_1).f0) ((zab l0 x3_1).f1) ((zab l0 x3_1).f2) ((zab l0 x3_1).f3))) = some r := H
                  have A38 := zaa.mk A380
                  clear A380
                  by_cases c39 : t155 = true
                  ·
                   subst c39
                   have H1 : (some true) = some r := by rw [if_pos rfl] at H; exact H
                   clear H
                   have H := H1
                   clear H1
                   obtain rfl := Option.some.inj H
                   have hcz40_0 : wr.cell? ⟨gb151, 0, none⟩ = some (.string ((zab l0 x3_1).f0)) := (zai BK151.out 0).trans rfl
                   have hcz40_1 : wr.cell? ⟨gb151, 1, none⟩ = some (.string ((zab l0 x3_1).f1)) := (zai BK151.out 1).trans rfl
                   have hcz40_2 : wr.cell? ⟨gb151, 2, none⟩ = some (.slice A150_2 ((zab l0 x3_1).f2).length c150_2) := (zai BK151.out 2).trans rfl
                   have hcz40_3 : wr.cell? ⟨gb151, 3, none⟩ = some (.slice A150_3 ((zab l0 x3_1).f3).length c150_3) := (zai BK151.out 3).trans rfl
                   have hfz40_0 := zal BK151.out 0
                   have hfz40_1 := zal BK151.out 1
                   have hfz40_2 := zal BK151.out 2
                   have hfz40_3 := zal BK151.out 3
                   have p153 : 0 ≤ (x5_4 : Int) := of_decide_eq_true (by first | (with_reducible assumption) | assumption)
                   have q153 : x5_4 < (((zab l0 x3_1).f3).length : Int) := of_decide_eq_true (by first | (with_reducible assumption) | assumption)
                   obtain ⟨ad153, A153_1, c153_1, e153, hx153_0, hx153_1, hx153_2, hl153_1, hi153_1⟩ := zcz HR150_3.out x5_4 p153 q153
                   cases e153
                   replace hx153_0 := (HB.out.cell (World.block_lt_of_cell? w _ hx153_0)).trans hx153_0
                   replace hx153_1 := (HB.out.cell (World.block_lt_of_cell? w _ hx153_1)).trans hx153_1
                   replace hx153_2 := (HB.out.cell (World.block_lt_of_cell? w _ hx153_2)).trans hx153_2
                   have HR153_1 := zaa.mk hi153_1
                   have HC153_1 := zaa.mk hl153_1
                   clear hi153_1 hl153_1
                   replace p153 := eq_true p153
                   replace q153 := eq_true q153
                   go_wp2_with (first | ((with_reducible refine zbF (N := 6) rfl ?_); (try (refine zbV (by rfl) ?_; dsimp only)); refine zbP ?hg (N := 6) ?hd (cs := #[.string (⟨#[]⟩ : ByteArray), .slice none 0 0, .string (⟨#[]⟩ : ByteArray)]) (t := 26) ?hr ?_; (case hd => rfl); (case hg => rfl); (case hr => first | (go_simp; done) | (go_simp; rfl)); intro gb154 hg w41 hbox hb; have n0_ := zaa.mk (zaU (g := gb151) (o := .cells #[.string ((zab l0 x3_1).f0), .string ((zab l0 x3_1).f1), .slice A150_2 ((zab l0 x3_1).f2).length c150_2, .slice (some ad153) ((zab l0 x3_1).f3).length c150_3] 45 (0, 0)) (by (with_reducible repeat (first | refine zaj ?_ _ | refine zan ?_ | refine zak ?_ _)); exact BK151.out) hb); have n1_ := zaa.mk (zaL (by repeat (first | (with_reducible first | exact HB.out | apply zaf | apply zad | apply zae | refine zah ?_ GE151.out) | exact HB.out)) hb); have n2_ := zaa.mk (hbox); have n3_ := zaa.mk ((by rw [hg]; exact (zaD (by repeat (first | (with_reducible first | exact HB.out | apply zaf | apply zad | apply zae | refine zah ?_ GE151.out) | exact HB.out))) : w.heap.size ≤ gb154)); have n4_ := zaa.mk ((by rw [hg]; exact (zaD (by repeat (first | (with_reducible first | exact HB.out | apply zaf | apply zad | apply zae | refine zah ?_ GE151.out) | exact HB.out))) : w.heap.size ≤ gb154)); have n5_ := zaa.mk ((by rw [hg]; exact Nat.ne_of_lt (zbu (g := gb151) (o := .cells #[.string ((zab l0 x3_1).f0), .string ((zab l0 x3_1).f1), .slice A150_2 ((zab l0 x3_1).f2).length c150_2, .slice (some ad153) ((zab l0 x3_1).f3).length c150_3] 45 (0, 0)) (by (with_reducible repeat (first | refine zaj ?_ _ | refine zan ?_ | refine zak ?_ _)); exact BK151.out)) : gb151 ≠ gb154)); have n6_ := zaa.mk ((by rw [hg]; exact Nat.ne_of_gt (zbu (g := gb151) (o := .cells #[.string ((zab l0 x3_1).f0), .string ((zab l0 x3_1).f1), .slice A150_2 ((zab l0 x3_1).f2).length c150_2, .slice (some ad153) ((zab l0 x3_1).f3).length c150_3] 45 (0, 0)) (by (with_reducible repeat (first | refine zaj ?_ _ | refine zan ?_ | refine zak ?_ _)); exact BK151.out)) : gb154 ≠ gb151)); clear BK151; clear HB; have BK151 := n0_; have HB := n1_; have BK154 := n2_; have GW154 := n3_; have GE154 := n4_; have NB151_154 := n5_; have NB154_151 := n6_; clear n0_ n1_ n2_ n3_ n4_ n5_ n6_; clear hb hbox hg; have hnb42 := NB154_151.out; have hnc42 := NB151_154.out; have hcz43_0 : w41.cell? ⟨gb154, 0, none⟩ = some (.string (⟨#[]⟩ : ByteArray)) := (zai BK154.out 0).trans rfl; have hcz43_1 : w41.cell? ⟨gb154, 1, none⟩ = some (.slice none 0 0) := (zai BK154.out 1).trans rfl; have hcz43_2 : w41.cell? ⟨gb154, 2, none⟩ = some (.string (⟨#[]⟩ : ByteArray)) := (zai BK154.out 2).trans rfl; have hfz43_0 := zal BK154.out 0; have hfz43_1 := zal BK154.out 1; have hfz43_2 := zal BK154.out 2) | (go_at_call 34; (with_reducible refine (zao.calls k4 _ _ ((zaF ((zab l0 x3_1).f3) x5_4).f1) true _ ?side1 ?side2 A38.out).mono ?_); (case side1 => exact Kd.zax HR153_1.out (by repeat (first | (with_reducible first | exact HB.out | apply zaf | apply zad | apply zae | refine zah ?_ GE151.out | refine zah ?_ GE154.out) | exact HB.out))); (case side2 => exact HC153_1.out); rintro e w' ⟨rfl, ⟨nd, rfl⟩⟩))
                   go_ret
                   exact ⟨by first | rfl | (simp [zaV, zaW] <;> rfl) | (simp [*, zaV, zaW] <;> rfl), by repeat (first | (with_reducible first | exact HB.out | apply zaf | apply zad | apply zae | refine zah ?_ GE151.out | refine zah ?_ GE154.out) | exact HB.out)⟩
                  ·
                   replace c39 := Bool.eq_false_iff.mpr c39
                   subst c39
                   have H1 : (zac.l1 k4 l0 x3_1 (wrap64 (x5_4 + 1)) ((zab l0 x3_1).f0) ((zab l0 x3_1).f1) ((zab l0 x3_1).f2) ((zab l0 x3_1).f3)) = some r := by rw [if_neg (show ¬ (false = true) by decide)] at H; exact H
                   clear H
                   have H := H1
                   clear H1
                   have H' := zaa.mk H
                   clear H
                   have hcz44_0 : wr.cell? ⟨gb151, 0, none⟩ = some (.string ((zab l0 x3_1).f0)) := (zai BK151.out 0).trans rfl
                   have hcz44_1 : wr.cell? ⟨gb151, 1, none⟩ = some (.string ((zab l0 x3_1).f1)) := (zai BK151.out 1).trans rfl
                   have hcz44_2 : wr.cell? ⟨gb151, 2, none⟩ = some (.slice A150_2 ((zab l0 x3_1).f2).length c150_2) := (zai BK151.out 2).trans rfl
                   have hcz44_3 : wr.cell? ⟨gb151, 3, none⟩ = some (.slice A150_3 ((zab l0 x3_1).f3).length c150_3) := (zai BK151.out 3).trans rfl
                   have hfz44_0 := zal BK151.out 0
                   have hfz44_1 := zal BK151.out 1
                   have hfz44_2 := zal BK151.out 2
                   have hfz44_3 := zal BK151.out 3
                   have p153 : 0 ≤ (x5_4 : Int) := of_decide_eq_true (by first | (with_reducible assumption) | assumption)
                   have q153 : x5_4 < (((zab l0 x3_1).f3).length : Int) := of_decide_eq_true (by first | (with_reducible assumption) | assumption)
                   obtain ⟨ad153, A153_1, c153_1, e153, hx153_0, hx153_1, hx153_2, hl153_1, hi153_1⟩ := zcz HR150_3.out x5_4 p153 q153
                   cases e153
                   replace hx153_0 := (HB.out.cell (World.block_lt_of_cell? w _ hx153_0)).trans hx153_0
                   replace hx153_1 := (HB.out.cell (World.block_lt_of_cell? w _ hx153_1)).trans hx153_1
                   replace hx153_2 := (HB.out.cell (World.block_lt_of_cell? w _ hx153_2)).trans hx153_2
                   have HR153_1 := zaa.mk hi153_1
                   have HC153_1 := zaa.mk hl153_1
                   clear hi153_1 hl153_1
                   replace p153 := eq_true p153
                   replace q153 := eq_true q153
                   go_wp2_with (first | ((with_reducible refine zbF (N := 6) rfl ?_); (try (refine zbV (by rfl) ?_; dsimp only)); refine zbP ?hg (N := 6) ?hd (cs := #[.string (⟨#[]⟩ : ByteArray), .slice none 0 0, .string (⟨#[]⟩ : ByteArray)]) (t := 26) ?hr ?_; (case hd => rfl); (case hg => rfl); (case hr => first | (go_simp; done) | (go_simp; rfl)); intro gb154 hg w45 hbox hb; have n0_ := zaa.mk (zaU (g := gb151) (o := .cells #[.string ((zab l0 x3_1).f0), .string ((zab l0 x3_1).f1), .slice A150_2 ((zab l0 x3_1).f2).length c150_2, .slice (some ad153) ((zab l0 x3_1).f3).length c150_3] 45 (0, 0)) (by (with_reducible repeat (first | refine zaj ?_ _ | refine zan ?_ | refine zak ?_ _)); exact BK151.out) hb); have n1_ := zaa.mk (zaL (by repeat (first | (with_reducible first | exact HB.out | apply zaf | apply zad | apply zae | refine zah ?_ GE151.out) | exact HB.out)) hb); have n2_ := zaa.mk (hbox); have n3_ := zaa.mk ((by rw [hg]; exact (zaD (by repeat (first | (with_reducible first | exact HB.out | apply zaf | apply zad | apply zae | refine zah ?_ GE151.out) | exact HB.out))) : w.heap.size ≤ gb154)); have n4_ := zaa.mk ((by rw [hg]; exact (zaD (by repeat (first | (with_reducible first | exact HB.out | apply zaf | apply zad | apply zae | refine zah ?_ GE151.out) | exact HB.out))) : w.heap.size ≤ gb154)); have n5_ := zaa.mk ((by rw [hg]; exact Nat.ne_of_lt (zbu (g := gb151) (o := .cells #[.string ((zab l0 x3_1).f0), .string ((zab l0 x3_1).f1), .slice A150_2 ((zab l0 x3_1).f2).length c150_2, .slice (some ad153) ((zab l0 x3_1).f3).length c150_3] 45 (0, 0)) (by (with_reducible repeat (first | refine zaj ?_ _ | refine zan ?_ | refine zak ?_ _)); exact BK151.out)) : gb151 ≠ gb154)); have n6_ := zaa.mk ((by rw [hg]; exact Nat.ne_of_gt (zbu (g := gb151) (o := .cells #[.string ((zab l0 x3_1).f0), .string ((zab l0 x3_1).f1), .slice A150_2 ((zab l0 x3_1).f2).length c150_2, .slice (some ad153) ((zab l0 x3_1).f3).length c150_3] 45 (0, 0)) (by (with_reducible repeat (first | refine zaj ?_ _ | refine zan ?_ | refine zak ?_ _)); exact BK151.out)) : gb154 ≠ gb151)); clear BK151; clear HB; have BK151 := n0_; have HB := n1_; have BK154 := n2_; have GW154 := n3_; have GE154 := n4_; have NB151_154 := n5_; have NB154_151 := n6_; clear n0_ n1_ n2_ n3_ n4_ n5_ n6_; clear hb hbox hg; have hnb46 := NB154_151.out; have hnc46 := NB151_154.out; have hcz47_0 : w45.cell? ⟨gb154, 0, none⟩ = some (.string (⟨#[]⟩ : ByteArray)) := (zai BK154.out 0).trans rfl; have hcz47_1 : w45.cell? ⟨gb154, 1, none⟩ = some (.slice none 0 0) := (zai BK154.out 1).trans rfl; have hcz47_2 : w45.cell? ⟨gb154, 2, none⟩ = some (.string (⟨#[]⟩ : ByteArray)) := (zai BK154.out 2).trans rfl; have hfz47_0 := zal BK154.out 0; have hfz47_1 := zal BK154.out 1; have hfz47_2 := zal BK154.out 2) | (go_at_call 34; (with_reducible refine (zao.calls k4 _ _ ((zaF ((zab l0 x3_1).f3) x5_4).f1) false _ ?side1 ?side2 A38.out).mono ?_); (case side1 => exact Kd.zax HR153_1.out (by repeat (first | (with_reducible first | exact HB.out | apply zaf | apply zad | apply zae | refine zah ?_ GE151.out | refine zah ?_ GE154.out) | exact HB.out))); (case side2 => exact HC153_1.out); rintro e w' ⟨rfl, ⟨nd, rfl⟩⟩))
                   go_roundg k4
                   case measure => have := HK1.out; have := HJ1.out; have := HJ6.out; have := HK4.out; omega
                   case rel => exact ⟨(wrap64 (x5_4 + 1)), (by first | rfl | (simp; done) | (simp [*]; done)), H', ⟨by have := HK1.out; have := HJ1.out; have := HJ6.out; have := HK4.out; omega⟩, ⟨by (with_reducible repeat (first | refine zaj ?_ _ | refine zan ?_ | refine zak ?_ _)); refine zb5 ?_ NB151_154.out _; (with_reducible repeat (first | refine zaj ?_ _ | refine zan ?_ | refine zak ?_ _)); refine zb5 ?_ NB151_154.out _; (with_reducible repeat (first | refine zaj ?_ _ | refine zan ?_ | refine zak ?_ _)); refine zb5 ?_ NB151_154.out _; (with_reducible repeat (first | refine zaj ?_ _ | refine zan ?_ | refine zak ?_ _)); exact BK151.out⟩, ⟨by repeat (first | (with_reducible first | exact HB.out | apply zaf | apply zad | apply zae | refine zah ?_ GE151.out | refine zah ?_ GE154.out) | exact HB.out)⟩⟩
              ·
               rw [if_neg c22] at H
               exact absurd H s9
             ·
              rw [if_neg c21] at H
              have c21b0 : decide (x5_4 < (((zab l0 x3_1).f3).length : Int)) = false := decide_eq_false c21
              clear c21
              have H' := zaa.mk H
              clear H
              have hcz48_0 : wr.cell? ⟨gb151, 0, none⟩ = some (.string ((zab l0 x3_1).f0)) := (zai BK151.out 0).trans rfl
              have hcz48_1 : wr.cell? ⟨gb151, 1, none⟩ = some (.string ((zab l0 x3_1).f1)) := (zai BK151.out 1).trans rfl
              have hcz48_2 : wr.cell? ⟨gb151, 2, none⟩ = some (.slice A150_2 ((zab l0 x3_1).f2).length c150_2) := (zai BK151.out 2).trans rfl
              have hcz48_3 : wr.cell? ⟨gb151, 3, none⟩ = some (.slice A150_3 ((zab l0 x3_1).f3).length c150_3) := (zai BK151.out 3).trans rfl
              have hfz48_0 := zal BK151.out 0
              have hfz48_1 := zal BK151.out 1
              have hfz48_2 := zal BK151.out 2
              have hfz48_3 := zal BK151.out 3
              go_wp2
              go_roundg k4
              case measure => have := HK1.out; have := HJ1.out; have := HJ6.out; have := HK4.out; omega
              case rel => exact ⟨(wrap64 (x3_1 + 1)), (by first | rfl | (simp; done) | (simp [*]; done)), H', ⟨by have := HK1.out; have := HJ1.out; have := HJ6.out; have := HK4.out; omega⟩, ⟨by repeat (first | (with_reducible first | exact HB.out | apply zaf | apply zad | apply zae | refine zah ?_ GE151.out) | exact HB.out)⟩⟩
       ·
        rw [if_neg c6] at H
        exact absurd H s9
      ·
       rw [if_neg c5] at H
       exact absurd H s9
     ·
      replace c4 := Bool.eq_false_iff.mpr c4
      subst c4
      have H1 : (some (decide ((l0.length : Int) > 9))) = some r := by rw [if_neg (show ¬ (false = true) by decide)] at H; exact H
      clear H
      have H := H1
      clear H1
      obtain rfl := Option.some.inj H
      go_wp2
      go_ret
      exact ⟨by first | rfl | (simp [zaV, zaW] <;> rfl) | (simp [*, zaV, zaW] <;> rfl), by repeat (first | (with_reducible first | exact HB.out | apply zaf | apply zad | apply zae) | exact HB.out)⟩
def za5.f (a0 : Int) (a1 : Int) : Option (Int) := if a1 ≤ 0 then (some 0) else (if a1 = 0 then (none) else (if (Int.tmod a0 a1) < 0 then (some (wrap64 ((Int.tmod a0 a1) + a1))) else (some (Int.tmod a0 a1))))
theorem za5.calls (a0 : Int) (a1 : Int) (r : Int) (w : World) (h : za5.f a0 a1 = some r) :
  Calls Tryd.prog 19 #[.int .i64 a0, .int .i64 a1] w fun e w' => e = .returned (.int .i64 r) ∧ zaP w w' := by
 have H : (if a1 ≤ 0 then (some 0) else (if a1 = 0 then (none) else (if (Int.tmod a0 a1) < 0 then (some (wrap64 ((Int.tmod a0 a1) + a1))) else (some (Int.tmod a0 a1))))) = some r := h
 clear h
 by_cases c3 : a1 ≤ 0
 ·
  rw [if_pos c3] at H
  have c3b0 : decide (a1 ≤ 0) = true := decide_eq_true c3
  clear c3
  obtain rfl := Option.some.inj H
  go_enter Tryd.func19, Tryd.ntmps19
  go_wp2
  go_ret
  exact ⟨by first | rfl | (simp; done) | (simp [*]; done), by repeat (first | exact zaP.refl _ | apply zaP.step)⟩
 ·
  rw [if_neg c3] at H
  have c3b0 : decide (a1 ≤ 0) = false := decide_eq_false c3
  clear c3
  by_cases c4 : a1 = 0
  ·
   rw [if_pos c4] at H
   exact absurd H s9
  ·
   rw [if_neg c4] at H
   have c4b0 : (a1 == 0) = false := beq_eq_false_iff_ne.mpr c4
   have c4b1 : (a1 != 0) = true := bne_iff_ne.mpr c4
   by_cases c5 : (Int.tmod a0 a1) < 0
   ·
    rw [if_pos c5] at H
    have c5b0 : decide ((Int.tmod a0 a1) < 0) = true := decide_eq_true c5
    clear c5
    obtain rfl := Option.some.inj H
    go_enter Tryd.func19, Tryd.ntmps19
    go_wp2
    go_ret
    exact ⟨by first | rfl | (simp; done) | (simp [*]; done), by repeat (first | exact zaP.refl _ | apply zaP.step)⟩
   ·
    rw [if_neg c5] at H
    have c5b0 : decide ((Int.tmod a0 a1) < 0) = false := decide_eq_false c5
    clear c5
    obtain rfl := Option.some.inj H
    go_enter Tryd.func19, Tryd.ntmps19
    go_wp2
    go_ret
    exact ⟨by first | rfl | (simp; done) | (simp [*]; done), by repeat (first | exact zaP.refl _ | apply zaP.step)⟩
end Go.Proofs.YtgcfmllgomikoaaDoor.PAll
end
