/- Parts of the proof of one statement, packed: what the program's functions compute. No conditions. -/
import Derived.Test.YtofoegknealilaaDoorKSS2
import Derived.Test.YtofoegknealilaaDoorKSS1
set_option linter.unusedSimpArgs false
set_option linter.unusedVariables false
set_option maxRecDepth 100000
set_option maxHeartbeats 8000000
section
namespace Go.Proofs.YtofoegknealilaaDoor.PAll
open Go.RowKit Go.Proofs.YtofoegknealilaaDoorW.PrintWords Go.Proofs.YtofoegknealilaaDoorW.PrintLast Go.Proofs.YtofoegknealilaaDoorW.za4
attribute [local go_sem] zbg zbh zbw zbv za7 za8 zbf zbi
open Go.Proofs.YtofoegknealilaaDoorTab in
def zbD.f (l0 : List (S44)) (a1 : ByteArray) : Option (List (S74)) := if l0.length < 4398046511104 ∧ (zbe l0 a1).length < 4398046511104 then some (zbe l0 a1) else none
open Go.Proofs.YtofoegknealilaaDoorTab in
theorem zbD.calls (A0 : Option Addr) (c0 : Nat) (l0 : List (S44)) (a1 : ByteArray) (r : List (S74)) (w : World) (hr0 : Kd.C k44 w A0 l0.length l0) (hc0 : l0.length ≤ c0) (h : zbD.f l0 a1 = some r) :
  Calls Tryd.prog 33 #[.slice A0 l0.length c0, .string a1] w fun e w' => ∃ v0_ : Value, e = .returned (v0_) ∧ Kd.R k74 74 w' w.heap.size (fun _ => True) v0_ r ∧ Below w.heap.size w w' := by
 unfold zbD.f at h
 by_cases hl : l0.length < 4398046511104 ∧ (zbe l0 a1).length < 4398046511104
 ·
  rw [if_pos hl] at h
  obtain rfl := Option.some.inj h
  exact zdx A0 c0 l0 a1 w hr0 hl.1 hl.2
 ·
  rw [if_neg hl] at h; cases h
def zaU.small (l0 : List (S44)) : Bool := decide (l0.length < 4398046511104) && l0.all fun x => decide (x.f3.length < 4398046511104) && x.f3.all fun m => decide (m.f1.length < 4398046511104)
open Go.Proofs.YtofoegknealilaaDoorTab in
theorem zaU.zf9 {l0 : List (S44)} (h : zaU.small l0 = true) : Small l0 := by
 unfold zaU.small at h
 simp only [Bool.and_eq_true, decide_eq_true_eq, List.all_eq_true] at h
 have hm : ∀ p, p < l0.length → clsAt l0 p ∈ l0 := fun p hp => by
  unfold clsAt zai
  rw [Int.toNat_natCast, List.getD_eq_getElem?_getD, List.getElem?_eq_getElem hp]
  exact List.getElem_mem hp
 exact ⟨h.1, fun p hp => (h.2 _ (hm p hp)).1, fun p hp m hm' => (h.2 _ (hm p hp)).2 m hm'⟩
open Go.Proofs.YtofoegknealilaaDoorTab in
def zaU.all (l0 : List (S44)) (a1 : ByteArray) : Nat := ((lineL l0 a1).reverse.flatMap fun p => (clsAt l0 p).f3).length
open Go.Proofs.YtofoegknealilaaDoorTab in
def zaU.f (l0 : List (S44)) (a1 : ByteArray) : Option (List (S57)) := if zaU.small l0 = true ∧ zaU.all l0 a1 < 2199023255552 then some (zbN l0 a1) else none
open Go.Proofs.YtofoegknealilaaDoorTab in
theorem zaU.calls (A0 : Option Addr) (c0 : Nat) (l0 : List (S44)) (a1 : ByteArray) (r : List (S57)) (w : World) (hr0 : Kd.C k44 w A0 l0.length l0) (hc0 : l0.length ≤ c0) (h : zaU.f l0 a1 = some r) :
  Calls Tryd.prog 34 #[.slice A0 l0.length c0, .string a1] w fun e w' => ∃ v0_ : Value, e = .returned (v0_) ∧ Kd.S k57 57 w' w.heap.size (fun _ => True) v0_ r ∧ Below w.heap.size w w' := by
 unfold zaU.f at h
 by_cases hl : zaU.small l0 = true ∧ zaU.all l0 a1 < 2199023255552
 ·
  rw [if_pos hl] at h
  obtain rfl := Option.some.inj h
  exact zeW A0 c0 l0 a1 w hr0 (zaU.zf9 hl.1) hl.2
 ·
  rw [if_neg hl] at h; cases h
mutual
def zar.l0 : Nat → List (S44) → ByteArray → List (S50) → List (S74) → Int → Int → Option ((List (S50)))
 | 0, _, _, _, _, _, _ => none
 | k + 1, x0, x1, x4, x11, x12, x13 => if x13 < x12 then (if 0 ≤ x13 then (if x13 < (x11.length : Int) then (if x4.length < 5864062014805 then (zar.l0 k x0 x1 (x4 ++ [(⟨(za0 x11 x13).f0, (-1)⟩ : S50)]) x11 x12 (wrap64 (x13 + 1))) else (none)) else (none)) else (none)) else ((zaU.f x0 x1).bind fun t234 => (zar.l1 k x4 t234 (t234.length : Int) 0))
def zar.l1 : Nat → List (S50) → List (S57) → Int → Int → Option ((List (S50)))
 | 0, _, _, _, _ => none
 | k + 1, x4, x26, x27, x28 => if x28 < x27 then (if 0 ≤ x28 then (if x28 < (x26.length : Int) then (if x4.length < 5864062014805 then (zar.l1 k (x4 ++ [(⟨(zaR x26 x28).f0, (((zaR x26 x28).f1).length : Int)⟩ : S50)]) x26 x27 (wrap64 (x28 + 1))) else (none)) else (none)) else (none)) else (some x4)
end
def zar.f (k : Nat) (l0 : List (S44)) (a1 : ByteArray) : Option ((List (S50))) := (zbD.f l0 a1).bind fun t226 => (zar.l0 k l0 a1 ([] : List (S50)) t226 (t226.length : Int) 0)
theorem zar.zbI : ∀ k, (∀ y0 y1 y2 y3 y4 y5, LeO (zar.l0 k y0 y1 y2 y3 y4 y5) (zar.l0 (k + 1) y0 y1 y2 y3 y4 y5)) ∧ (∀ y0 y1 y2 y3, LeO (zar.l1 k y0 y1 y2 y3) (zar.l1 (k + 1) y0 y1 y2 y3))
 | 0 => ⟨fun _ _ _ _ _ _ r h => by simp [zar.l0] at h, fun _ _ _ _ r h => by simp [zar.l1] at h⟩
 | k + 1 => by
  obtain ⟨ih0, ih1⟩ := zar.zbI k
  refine ⟨?_, ?_⟩
  ·
   intro y0 y1 y2 y3 y4 y5
   unfold zar.l0
   repeat' first
   | (with_reducible exact ih0 _ _ _ _ _ _)
   | (with_reducible exact ih1 _ _ _ _)
   | (with_reducible exact LeO.refl _)
   | (with_reducible exact LeO.none _)
   | (with_reducible refine LeO.ite ?_ ?_)
   | (with_reducible refine LeO.bind ?_ (fun _ => ?_))
   | exact ih0 _ _ _ _ _ _
   | exact ih1 _ _ _ _
   | exact LeO.none _
   | refine LeO.ite ?_ ?_
   | refine LeO.bind ?_ (fun _ => ?_)
  ·
   intro y0 y1 y2 y3
   unfold zar.l1
   repeat' first
   | (with_reducible exact ih0 _ _ _ _ _ _)
   | (with_reducible exact ih1 _ _ _ _)
   | (with_reducible exact LeO.refl _)
   | (with_reducible exact LeO.none _)
   | (with_reducible refine LeO.ite ?_ ?_)
   | (with_reducible refine LeO.bind ?_ (fun _ => ?_))
   | exact ih0 _ _ _ _ _ _
   | exact ih1 _ _ _ _
   | exact LeO.none _
   | refine LeO.ite ?_ ?_
   | refine LeO.bind ?_ (fun _ => ?_)
theorem zar.mono : ∀ a0 a1 k, LeO (zar.f k a0 a1) (zar.f (k + 1) a0 a1) := by
 intro a0 a1 k
 obtain ⟨ih0, ih1⟩ := zar.zbI k
 unfold zar.f
 repeat' first
   | (with_reducible exact ih0 _ _ _ _ _ _)
   | (with_reducible exact ih1 _ _ _ _)
   | (with_reducible exact LeO.refl _)
   | (with_reducible exact LeO.none _)
   | (with_reducible refine LeO.ite ?_ ?_)
   | (with_reducible refine LeO.bind ?_ (fun _ => ?_))
   | exact ih0 _ _ _ _ _ _
   | exact ih1 _ _ _ _
   | exact LeO.none _
   | refine LeO.ite ?_ ?_
   | refine LeO.bind ?_ (fun _ => ?_)
theorem zar.calls (k : Nat) (A0 : Option Addr) (c0 : Nat) (l0 : List (S44)) (a1 : ByteArray) (r : List (S50)) (w : World) (hr0 : Kd.C k44 w A0 l0.length l0) (hc0 : l0.length ≤ c0) (h : zar.f k l0 a1 = some r) :
  Calls Tryd.prog 19 #[.slice A0 l0.length c0, .string a1] w fun e w' => ∃ v0_ : Value, e = .returned (v0_) ∧ Kd.R k50 50 w' w.heap.size (fun _ => True) v0_ r ∧ Below w.heap.size w w' := by
 have hu74 := Tryd.underlying74
 have hu50 := Tryd.underlying50
 have hu57 := Tryd.underlying57
 have HR0 := zaa.mk hr0
 have HC0 := zaa.mk hc0
 clear hr0 hc0
 have HB := zaa.mk (Below.refl w.heap.size w)
 have H : ((zbD.f l0 a1).bind fun t226 => (zar.l0 k l0 a1 ([] : List (S50)) t226 (t226.length : Int) 0)) = some r := h
 clear h
 replace H := Option.bind_eq_some_iff.mp H
 obtain ⟨t226, A30, H⟩ := H
 replace H : (zar.l0 k l0 a1 ([] : List (S50)) t226 (t226.length : Int) 0) = some r := H
 have A3 := zaa.mk A30
 clear A30
 have H' := zaa.mk H
 clear H
 go_enter Tryd.func19, Tryd.ntmps19
 go_wp2_with (first | ((with_reducible refine zaO (f := 33) rfl ?_); refine zbj (some 11) rfl rfl Tryd.func33 k9 rfl #[.slice A0 l0.length c0, .string a1] rfl m9 ?_; (with_reducible refine (zbD.calls _ _ l0 a1 t226 _ ?side1 ?side2 A3.out).mono ?_); (case side1 => repeat (first | exact HR0.out | (with_reducible refine Kd.zaM ?_ _) | (with_reducible refine Kd.zaN ?_ _) | (with_reducible refine Kd.zaW ?_))); (case side2 => exact HC0.out); rintro e w4 ⟨v227, rfl, ho0, hb⟩; refine ⟨_, rfl, ?_⟩; have n0_ := zaa.mk (Kd.zbk ho0 (zaL (by repeat (first | (with_reducible first | exact HB.out | apply zad | apply zac | apply zae) | exact HB.out)))); have n1_ := zaa.mk (zaq (by repeat (first | (with_reducible first | exact HB.out | apply zad | apply zac | apply zae) | exact HB.out)) hb); clear HB; have HO228 := n0_; have HB := n1_; clear n0_ n1_; (try clear hb); (try clear hb2); (try clear hk); (try clear hi); (try clear ho0); obtain ⟨Ao5, co5, eo5⟩ := Kd.zaZ HO228.out; subst eo5))
 go_loopg [4, 13] k (fun kq v4 v13 w' => ∃ (x4_1 : List (S50)) (x13_1 : Int), v13 = .int .i64 x13_1 ∧ zaa (zar.l0 kq l0 a1 x4_1 t226 (t226.length : Int) x13_1 = some r) ∧ zaa (kq ≤ k) ∧ zaa (Kd.R k50 50 w' w.heap.size (fun _ => True) v4 x4_1) ∧ zaa (Kd.R k74 74 w' w.heap.size (fun _ => True) (.slice Ao5 t226.length co5) t226) ∧ zaa (Below w.heap.size w w'))
 case atStart => exact ⟨(([] : List (S50))), (0), (by first | rfl | (simp; done) | (simp [*]; done)), H', ⟨Nat.le_refl _⟩, ⟨by first | exact Kd.R_nil _ _ _ _ _ | exact Kd.N_nil _ _ _ _ _ | exact Kd.V_nil _ _ _ _ _ | exact Kd.Q_nil _ _ _ _ _ | exact Kd.S_nil _ _ _ _ _⟩, ⟨by (with_reducible repeat (first | apply Kd.zax | apply Kd.zay | apply Kd.zaC)); exact HO228.out⟩, ⟨by repeat (first | (with_reducible first | exact HB.out | apply zad | apply zac | apply zae) | exact HB.out)⟩⟩
 case round =>
  clear H'
  try clear c1
  try clear p2
  try clear c3
  obtain ⟨x4_1, x13_1, rfl, HA, HK1, HO_4, HO_11, HB⟩ := hrel
  cases gk with
  | zero => exact absurd HA.out (by simp [zar.l0])
  | succ k1 =>
   have H := HA.out
   clear HA
   simp only [zar.l0] at H
   by_cases c6 : x13_1 < (t226.length : Int)
   ·
    rw [if_pos c6] at H
    have c6b0 : decide (x13_1 < (t226.length : Int)) = true := decide_eq_true c6
    clear c6
    by_cases c7 : 0 ≤ x13_1
    ·
     rw [if_pos c7] at H
     have c7b0 : decide (0 ≤ x13_1) = true := decide_eq_true c7
     clear c7
     by_cases c8 : x13_1 < (t226.length : Int)
     ·
      rw [if_pos c8] at H
      have c8b0 : decide (x13_1 < (t226.length : Int)) = true := decide_eq_true c8
      clear c8
      by_cases c9 : x4_1.length < 5864062014805
      ·
       rw [if_pos c9] at H
       have LMc9 := zaa.mk c9
       clear c9
       obtain ⟨y231, hy231⟩ : ∃ y_ : List (S50), y_ = (x4_1 ++ [(⟨(za0 t226 x13_1).f0, (-1)⟩ : S50)]) := ⟨_, rfl⟩
       replace H : (zar.l0 k1 l0 a1 y231 t226 (t226.length : Int) (wrap64 (x13_1 + 1))) = some r := by first | (rw [hy231]; with_reducible exact H) | (have H2_ := (Option.bind_some _ _).symm.trans H; rw [hy231]; with_reducible exact H2_) | (have H2_ := (Option.bind_some _ _).symm.trans H; with_reducible exact H2_) | with_reducible exact H | (rw [hy231]; exact H) | exact H
       have Ny231 := zaa.mk hy231
       clear hy231
       have H' := zaa.mk H
       clear H
       have p229 : 0 ≤ (x13_1 : Int) := of_decide_eq_true (by first | (with_reducible assumption) | assumption)
       have q229 : x13_1 < (t226.length : Int) := of_decide_eq_true (by first | (with_reducible assumption) | assumption)
       obtain ⟨ad229, e229, hx229_0, hx229_1⟩ := zcD (Kd.zaw HO_11.out).2.2 x13_1 p229 q229
       cases e229
       replace p229 := eq_true p229
       replace q229 := eq_true q229
       go_wp2_with (first | ((with_reducible refine zbp (N := 6) rfl ?_); refine zbO ?hg (N := 6) ?hd (cs := #[.string (⟨#[]⟩ : ByteArray), .string (⟨#[]⟩ : ByteArray)]) (t := 74) ?hr ?_; (case hd => rfl); (case hg => rfl); (case hr => first | (go_simp; done) | (go_simp; rfl)); intro gb230 hg w10 hbox hb; have n0_ := zaa.mk (Kd.zaG (by (with_reducible repeat (first | apply Kd.zax | apply Kd.zay | apply Kd.zaC)); exact HO_4.out) hb); have n1_ := zaa.mk (Kd.zaG (Kd.zhT (by (with_reducible repeat (first | apply Kd.zax | apply Kd.zay | apply Kd.zaC)); exact HO_11.out) gb230 (Nat.le_of_eq hg.symm)) hb); have n2_ := zaa.mk (zaq (by repeat (first | (with_reducible first | exact HB.out | apply zad | apply zac | apply zae) | exact HB.out)) hb); have n3_ := zaa.mk (hbox); have n4_ := zaa.mk ((by rw [hg]; exact (zaL (by repeat (first | (with_reducible first | exact HB.out | apply zad | apply zac | apply zae) | exact HB.out))) : w.heap.size ≤ gb230)); have n5_ := zaa.mk ((by rw [hg]; exact (zaL (by repeat (first | (with_reducible first | exact HB.out | apply zad | apply zac | apply zae) | exact HB.out))) : w.heap.size ≤ gb230)); clear HO_4; clear HO_11; clear HB; have HO_4 := n0_; have HO_11 := n1_; have HB := n2_; have BK230 := n3_; have GW230 := n4_; have GE230 := n5_; clear n0_ n1_ n2_ n3_ n4_ n5_; clear hb hbox hg; have hcz11_0 : w10.cell? ⟨gb230, 0, none⟩ = some (.string (⟨#[]⟩ : ByteArray)) := (zaB BK230.out 0).trans rfl; have hcz11_1 : w10.cell? ⟨gb230, 1, none⟩ = some (.string (⟨#[]⟩ : ByteArray)) := (zaB BK230.out 1).trans rfl; have hfz11_0 := zau BK230.out 0; have hfz11_1 := zau BK230.out 1) | ((with_reducible refine zb7 (b := .append) (xs := #[.tmp 17, .tmp 21]) rfl ?_); at_builtin; refine Kd.zdg k50 (w0 := w) w.heap.size rfl (.tmp 17) (.tmp 21) 45 50 (.agg #[(.string ⟨#[]⟩), (.int .i64 0)]) 24 rfl Tryd.underlying45 zic rfl d9 o9 u4 x4_1 (⟨(za0 t226 x13_1).f0, (-1)⟩ : S50) [.string ((za0 t226 x13_1).f0), .int .i64 (-1)] (fun _ => True) (fun _ => False) rfl (by first | (go_simp; done) | (go_simp; rfl)) ?aP (fun _ hk => hk.elim) ?aF ?aO ?aB ?aS ?aL ?_; (case aP => exact zht _ _ _ (⟨(za0 t226 x13_1).f0, (-1)⟩ : S50)); (case aB => exact (by repeat (first | (with_reducible first | exact HB.out | apply zad | apply zac | apply zae | refine zav ?_ GE230.out) | exact HB.out))); (case aF => exact (fun _ _ => trivial)); (case aO => exact (by (with_reducible repeat (first | apply Kd.zax | apply Kd.zay | apply Kd.zaC)); exact Kd.za2 (Kd.R_far (p := ⟨gb230, 1, none⟩) (Kd.R_far (p := ⟨gb230, 0, none⟩) (Kd.zcz HO_4.out BK230.out d9) (fun _ hk => hk.2) (.string ((za0 t226 x13_1).f0))) (fun _ hk => hk.2) (.string ((za0 t226 x13_1).f1))) (fun _ hk => trivial))); (case aS => exact (zaL (by repeat (first | (with_reducible first | exact HB.out | apply zad | apply zac | apply zae | refine zav ?_ GE230.out) | exact HB.out)))); (case aL => have := LMc9.out; omega); intro v232 w12 ho hb hg hat; rw [← Ny231.out] at ho; have n0_ := zaa.mk (Kd.zfO (by (with_reducible repeat (first | apply Kd.zax | apply Kd.zay | apply Kd.zaC)); exact (Kd.za2 (Kd.R_far (p := ⟨gb230, 1, none⟩) (Kd.R_far (p := ⟨gb230, 0, none⟩) (Kd.za2 HO_11.out (fun k_ hk => (⟨hk, hk.2⟩ : _ ∧ k_ ≠ gb230))) (fun _ hk => hk.2) (.string ((za0 t226 x13_1).f0))) (fun _ hk => hk.2) (.string ((za0 t226 x13_1).f1))) (fun _ h_ => h_.1))) (Kd.zed (by (with_reducible repeat (first | apply Kd.zax | apply Kd.zay | apply Kd.zaC)); exact (Kd.za2 (Kd.R_far (p := ⟨gb230, 1, none⟩) (Kd.R_far (p := ⟨gb230, 0, none⟩) (Kd.zcz HO_4.out BK230.out d9) (fun _ hk => hk.2) (.string ((za0 t226 x13_1).f0))) (fun _ hk => hk.2) (.string ((za0 t226 x13_1).f1))) (fun _ h_ => h_.1)))) d9 hg); have n1_ := zaa.mk (zdT (g := gb230) (o := .cells #[.string ((za0 t226 x13_1).f0), .string ((za0 t226 x13_1).f1)] 74 (0, 0)) (by (with_reducible repeat (first | refine zaD ?_ _ | refine zaI ?_ | refine zaE ?_ _)); refine zaK (cs := #[.string ((za0 t226 x13_1).f0), .string (⟨#[]⟩ : ByteArray)]) ?_ 1 _ rfl; (with_reducible repeat (first | refine zaD ?_ _ | refine zaI ?_ | refine zaE ?_ _)); refine zaK (cs := #[.string (⟨#[]⟩ : ByteArray), .string (⟨#[]⟩ : ByteArray)]) ?_ 0 _ rfl; (with_reducible repeat (first | refine zaD ?_ _ | refine zaI ?_ | refine zaE ?_ _)); exact BK230.out) hg (Kd.R_ne HO_4.out BK230.out d9)); have n2_ := zaa.mk (hb); have n3_ := zaa.mk (ho); clear HO_11; clear BK230; clear HB; clear HO_4; have HO_11 := n0_; have BK230 := n1_; have HB := n2_; have HO233 := n3_; clear n0_ n1_ n2_ n3_; clear ho hb hg hat))
       go_roundg k1
       case measure => have := HK1.out; omega
       case rel => exact ⟨(y231), (wrap64 (x13_1 + 1)), (by first | rfl | (simp; done) | (simp [*]; done)), H', ⟨by have := HK1.out; omega⟩, ⟨by (with_reducible repeat (first | apply Kd.zax | apply Kd.zay | apply Kd.zaC)); exact HO233.out⟩, ⟨by (with_reducible repeat (first | apply Kd.zax | apply Kd.zay | apply Kd.zaC)); exact Kd.za2 HO_11.out (fun _ hk => trivial)⟩, ⟨by repeat (first | (with_reducible first | exact HB.out | apply zad | apply zac | apply zae | refine zav ?_ GE230.out) | exact HB.out)⟩⟩
      ·
       rw [if_neg c9] at H
       exact absurd H s9
     ·
      rw [if_neg c8] at H
      exact absurd H s9
    ·
     rw [if_neg c7] at H
     exact absurd H s9
   ·
    rw [if_neg c6] at H
    have c6b0 : decide (x13_1 < (t226.length : Int)) = false := decide_eq_false c6
    clear c6
    replace H := Option.bind_eq_some_iff.mp H
    obtain ⟨t234, A130, H⟩ := H
    replace H : (zar.l1 k1 x4_1 t234 (t234.length : Int) 0) = some r := H
    have A13 := zaa.mk A130
    clear A130
    have H' := zaa.mk H
    clear H
    go_wp2_with (first | ((with_reducible refine zaO (f := 34) rfl ?_); refine zbj (some 26) rfl rfl Tryd.func34 k9 rfl #[.slice A0 l0.length c0, .string a1] rfl m9 ?_; (with_reducible refine (zaU.calls _ _ l0 a1 t234 _ ?side1 ?side2 A13.out).mono ?_); (case side1 => repeat (first | exact (Kd.zaF HR0.out HB.out) | (with_reducible refine Kd.zaM ?_ _) | (with_reducible refine Kd.zaN ?_ _) | (with_reducible refine Kd.zaW ?_))); (case side2 => exact HC0.out); rintro e w14 ⟨v235, rfl, ho0, hb⟩; refine ⟨_, rfl, ?_⟩; have n0_ := zaa.mk (Kd.zaG (by (with_reducible repeat (first | apply Kd.zax | apply Kd.zay | apply Kd.zaC)); exact HO_4.out) hb); have n1_ := zaa.mk (Kd.zaG (by (with_reducible repeat (first | apply Kd.zax | apply Kd.zay | apply Kd.zaC)); exact HO_11.out) hb); have n2_ := zaa.mk (Kd.zho (Kd.ziT ho0 (Kd.R_lt (by (with_reducible repeat (first | apply Kd.zax | apply Kd.zay | apply Kd.zaC)); exact HO_11.out))) (zaL (by repeat (first | (with_reducible first | exact HB.out | apply zad | apply zac | apply zae) | exact HB.out)))); have n3_ := zaa.mk (zaq (by repeat (first | (with_reducible first | exact HB.out | apply zad | apply zac | apply zae) | exact HB.out)) hb); clear HO_4; clear HO_11; clear HB; have HO_4 := n0_; have HO_11 := n1_; have HO236 := n2_; have HB := n3_; clear n0_ n1_ n2_ n3_; (try clear hb); (try clear hb2); (try clear hk); (try clear hi); (try clear ho0); obtain ⟨Ao15, co15, eo15⟩ := Kd.zhf HO236.out; subst eo15))
    go_loopg [4, 28] k1 (fun kq v4 v28 w' => ∃ (x4_2 : List (S50)) (x28_2 : Int), v28 = .int .i64 x28_2 ∧ zaa (zar.l1 kq x4_2 t234 (t234.length : Int) x28_2 = some r) ∧ zaa (kq ≤ k1) ∧ zaa (Kd.R k50 50 w' w.heap.size (fun _ => True) v4 x4_2) ∧ zaa (Kd.S k57 57 w' w.heap.size (fun _ => True) (.slice Ao15 t234.length co15) t234) ∧ zaa (Below w.heap.size w w'))
    case atStart => exact ⟨(x4_1), (0), (by first | rfl | (simp; done) | (simp [*]; done)), H', ⟨Nat.le_refl _⟩, ⟨by (with_reducible repeat (first | apply Kd.zax | apply Kd.zay | apply Kd.zaC)); exact HO_4.out⟩, ⟨by (with_reducible repeat (first | apply Kd.ze0 | apply Kd.zeP | apply Kd.zga)); exact Kd.zdO HO236.out (fun _ hk => trivial)⟩, ⟨by repeat (first | (with_reducible first | exact HB.out | apply zad | apply zac | apply zae) | exact HB.out)⟩⟩
    case round =>
     clear H'
     try clear c1
     try clear p2
     try clear q2
     try clear hx2
     try clear c3
     try clear c6
     try clear c6b0
     try clear p6
     try clear c7
     try clear c7b0
     try clear c8
     try clear c8b0
     try clear c9
     try clear hcz11_0
     try clear hcz11_1
     try clear hfz11_0
     try clear hfz11_1
     try clear hx229_0
     try clear hx229_1
     try clear p2
     try clear p229
     try clear q229
     obtain ⟨x4_2, x28_2, rfl, HA, HK2, HO_4, HO_26, HB⟩ := hrel
     cases gk with
     | zero => exact absurd HA.out (by simp [zar.l1])
     | succ k2 =>
      have H := HA.out
      clear HA
      simp only [zar.l1] at H
      by_cases c16 : x28_2 < (t234.length : Int)
      ·
       rw [if_pos c16] at H
       have c16b0 : decide (x28_2 < (t234.length : Int)) = true := decide_eq_true c16
       clear c16
       by_cases c17 : 0 ≤ x28_2
       ·
        rw [if_pos c17] at H
        have c17b0 : decide (0 ≤ x28_2) = true := decide_eq_true c17
        clear c17
        by_cases c18 : x28_2 < (t234.length : Int)
        ·
         rw [if_pos c18] at H
         have c18b0 : decide (x28_2 < (t234.length : Int)) = true := decide_eq_true c18
         clear c18
         by_cases c19 : x4_2.length < 5864062014805
         ·
          rw [if_pos c19] at H
          have LMc19 := zaa.mk c19
          clear c19
          obtain ⟨y239, hy239⟩ : ∃ y_ : List (S50), y_ = (x4_2 ++ [(⟨(zaR t234 x28_2).f0, (((zaR t234 x28_2).f1).length : Int)⟩ : S50)]) := ⟨_, rfl⟩
          replace H : (zar.l1 k2 y239 t234 (t234.length : Int) (wrap64 (x28_2 + 1))) = some r := by first | (rw [hy239]; with_reducible exact H) | (have H2_ := (Option.bind_some _ _).symm.trans H; rw [hy239]; with_reducible exact H2_) | (have H2_ := (Option.bind_some _ _).symm.trans H; with_reducible exact H2_) | with_reducible exact H | (rw [hy239]; exact H) | exact H
          have Ny239 := zaa.mk hy239
          clear hy239
          have H' := zaa.mk H
          clear H
          have p237 : 0 ≤ (x28_2 : Int) := of_decide_eq_true (by first | (with_reducible assumption) | assumption)
          have q237 : x28_2 < (t234.length : Int) := of_decide_eq_true (by first | (with_reducible assumption) | assumption)
          obtain ⟨ad237, A237_1, c237_1, e237, hx237_0, hx237_1, hx237_2, hl237_1, hi237_1⟩ := zcO (Kd.zf4 HO_26.out).2.2 x28_2 p237 q237
          cases e237
          obtain ⟨ce237, hce237, hMe237, hcc237⟩ := Kd.S_get HO_26.out z57 x28_2 p237 (by first | exact q237 | exact of_decide_eq_true (by first | (with_reducible assumption) | assumption) | (have e_ := (Kd.zf4 HO_26.out).1; omega))
          obtain ⟨ve237_1, rfl, ge237_1⟩ := zhd hMe237
          have hv237_1 := hcc237 1 _ rfl
          rw [zb8 _ _ 1 o9] at hv237_1
          replace hv237_1 := Option.some.inj (hv237_1.symm.trans hx237_1)
          rw [hv237_1] at ge237_1
          have HL237_1 := zaa.mk (show Kd.R k74 74 _ _ _ _ ((zaR t234 x28_2).f1) from ge237_1)
          clear hv237_1 ge237_1
          clear hcc237 hce237
          have HR237_1 := zaa.mk hi237_1
          have HC237_1 := zaa.mk hl237_1
          clear hi237_1 hl237_1
          replace p237 := eq_true p237
          replace q237 := eq_true q237
          go_wp2_with (first | ((with_reducible refine zbp (N := 8) rfl ?_); refine zbO ?hg (N := 8) ?hd (cs := #[.string (⟨#[]⟩ : ByteArray), .slice none 0 0, .string (⟨#[]⟩ : ByteArray)]) (t := 57) ?hr ?_; (case hd => rfl); (case hg => rfl); (case hr => first | (go_simp; done) | (go_simp; rfl)); intro gb238 hg w20 hbox hb; have n0_ := zaa.mk (Kd.zaG (by (with_reducible repeat (first | apply Kd.zax | apply Kd.zay | apply Kd.zaC)); exact HO_4.out) hb); have n1_ := zaa.mk (Kd.zeS (Kd.zhP (by (with_reducible repeat (first | apply Kd.ze0 | apply Kd.zeP | apply Kd.zga)); exact HO_26.out) gb238 (Nat.le_of_eq hg.symm)) hb); have n2_ := zaa.mk (Kd.zaG (by (with_reducible repeat (first | apply Kd.zax | apply Kd.zay | apply Kd.zaC)); exact HL237_1.out) hb); have n3_ := zaa.mk (Kd.zaF (by repeat (first | (with_reducible exact HR237_1.out) | (with_reducible refine Kd.zaM ?_ _) | (with_reducible refine Kd.zaN ?_ _) | (with_reducible refine Kd.zaW ?_) | exact HR237_1.out)) hb); have n4_ := zaa.mk (zaq (by repeat (first | (with_reducible first | exact HB.out | apply zad | apply zac | apply zae) | exact HB.out)) hb); have n5_ := zaa.mk (hbox); have n6_ := zaa.mk ((by rw [hg]; exact (zaL (by repeat (first | (with_reducible first | exact HB.out | apply zad | apply zac | apply zae) | exact HB.out))) : w.heap.size ≤ gb238)); have n7_ := zaa.mk ((by rw [hg]; exact (zaL (by repeat (first | (with_reducible first | exact HB.out | apply zad | apply zac | apply zae) | exact HB.out))) : w.heap.size ≤ gb238)); clear HO_4; clear HO_26; clear HL237_1; clear HR237_1; clear HB; have HO_4 := n0_; have HO_26 := n1_; have HL237_1 := n2_; have HR237_1 := n3_; have HB := n4_; have BK238 := n5_; have GW238 := n6_; have GE238 := n7_; clear n0_ n1_ n2_ n3_ n4_ n5_ n6_ n7_; clear hb hbox hg; have hcz21_0 : w20.cell? ⟨gb238, 0, none⟩ = some (.string (⟨#[]⟩ : ByteArray)) := (zaB BK238.out 0).trans rfl; have hcz21_1 : w20.cell? ⟨gb238, 1, none⟩ = some (.slice none 0 0) := (zaB BK238.out 1).trans rfl; have hcz21_2 : w20.cell? ⟨gb238, 2, none⟩ = some (.string (⟨#[]⟩ : ByteArray)) := (zaB BK238.out 2).trans rfl; have hfz21_0 := zau BK238.out 0; have hfz21_1 := zau BK238.out 1; have hfz21_2 := zau BK238.out 2) | ((with_reducible refine zb7 (b := .append) (xs := #[.tmp 32, .tmp 39]) rfl ?_); at_builtin; refine Kd.zdg k50 (w0 := w) w.heap.size rfl (.tmp 32) (.tmp 39) 45 50 (.agg #[(.string ⟨#[]⟩), (.int .i64 0)]) 24 rfl Tryd.underlying45 zic rfl d9 o9 u4 x4_2 (⟨(zaR t234 x28_2).f0, (((zaR t234 x28_2).f1).length : Int)⟩ : S50) [.string ((zaR t234 x28_2).f0), .int .i64 (((zaR t234 x28_2).f1).length : Int)] (fun _ => True) (fun _ => False) rfl (by first | (go_simp; done) | (go_simp; rfl)) ?aP (fun _ hk => hk.elim) ?aF ?aO ?aB ?aS ?aL ?_; (case aP => exact zht _ _ _ (⟨(zaR t234 x28_2).f0, (((zaR t234 x28_2).f1).length : Int)⟩ : S50)); (case aB => exact (by repeat (first | (with_reducible first | exact HB.out | apply zad | apply zac | apply zae | refine zav ?_ GE238.out) | exact HB.out))); (case aF => exact (fun _ _ => trivial)); (case aO => exact (by (with_reducible repeat (first | apply Kd.zax | apply Kd.zay | apply Kd.zaC)); exact Kd.za2 (Kd.R_far (p := ⟨gb238, 2, none⟩) (Kd.R_far (p := ⟨gb238, 1, none⟩) (Kd.R_far (p := ⟨gb238, 0, none⟩) (Kd.zcz HO_4.out BK238.out d9) (fun _ hk => hk.2) (.string ((zaR t234 x28_2).f0))) (fun _ hk => hk.2) (.slice A237_1 ((zaR t234 x28_2).f1).length c237_1)) (fun _ hk => hk.2) (.string ((zaR t234 x28_2).f2))) (fun _ hk => trivial))); (case aS => exact (zaL (by repeat (first | (with_reducible first | exact HB.out | apply zad | apply zac | apply zae | refine zav ?_ GE238.out) | exact HB.out)))); (case aL => have := LMc19.out; omega); intro v240 w22 ho hb hg hat; rw [← Ny239.out] at ho; have n0_ := zaa.mk (Kd.ziL (by (with_reducible repeat (first | apply Kd.ze0 | apply Kd.zeP | apply Kd.zga)); exact (Kd.zdO (Kd.S_far (p := ⟨gb238, 2, none⟩) (Kd.S_far (p := ⟨gb238, 1, none⟩) (Kd.S_far (p := ⟨gb238, 0, none⟩) (Kd.zdO HO_26.out (fun k_ hk => (⟨hk, hk.2⟩ : _ ∧ k_ ≠ gb238))) (fun _ hk => hk.2) (.string ((zaR t234 x28_2).f0))) (fun _ hk => hk.2) (.slice A237_1 ((zaR t234 x28_2).f1).length c237_1)) (fun _ hk => hk.2) (.string ((zaR t234 x28_2).f2))) (fun _ h_ => h_.1))) (Kd.zed (by (with_reducible repeat (first | apply Kd.zax | apply Kd.zay | apply Kd.zaC)); exact (Kd.za2 (Kd.R_far (p := ⟨gb238, 2, none⟩) (Kd.R_far (p := ⟨gb238, 1, none⟩) (Kd.R_far (p := ⟨gb238, 0, none⟩) (Kd.zcz HO_4.out BK238.out d9) (fun _ hk => hk.2) (.string ((zaR t234 x28_2).f0))) (fun _ hk => hk.2) (.slice A237_1 ((zaR t234 x28_2).f1).length c237_1)) (fun _ hk => hk.2) (.string ((zaR t234 x28_2).f2))) (fun _ h_ => h_.1)))) d9 hg); have n1_ := zaa.mk (Kd.zfO (by (with_reducible repeat (first | apply Kd.zax | apply Kd.zay | apply Kd.zaC)); exact (Kd.za2 (Kd.R_far (p := ⟨gb238, 2, none⟩) (Kd.R_far (p := ⟨gb238, 1, none⟩) (Kd.R_far (p := ⟨gb238, 0, none⟩) (Kd.zcz HL237_1.out BK238.out d9) (fun _ hk => hk.2) (.string ((zaR t234 x28_2).f0))) (fun _ hk => hk.2) (.slice A237_1 ((zaR t234 x28_2).f1).length c237_1)) (fun _ hk => hk.2) (.string ((zaR t234 x28_2).f2))) (fun _ h_ => h_.1))) (Kd.zed (by (with_reducible repeat (first | apply Kd.zax | apply Kd.zay | apply Kd.zaC)); exact (Kd.za2 (Kd.R_far (p := ⟨gb238, 2, none⟩) (Kd.R_far (p := ⟨gb238, 1, none⟩) (Kd.R_far (p := ⟨gb238, 0, none⟩) (Kd.zcz HO_4.out BK238.out d9) (fun _ hk => hk.2) (.string ((zaR t234 x28_2).f0))) (fun _ hk => hk.2) (.slice A237_1 ((zaR t234 x28_2).f1).length c237_1)) (fun _ hk => hk.2) (.string ((zaR t234 x28_2).f2))) (fun _ h_ => h_.1)))) d9 hg); have n2_ := zaa.mk (zdT (g := gb238) (o := .cells #[.string ((zaR t234 x28_2).f0), .slice A237_1 ((zaR t234 x28_2).f1).length c237_1, .string ((zaR t234 x28_2).f2)] 57 (0, 0)) (by (with_reducible repeat (first | refine zaD ?_ _ | refine zaI ?_ | refine zaE ?_ _)); refine zaK (cs := #[.string ((zaR t234 x28_2).f0), .slice A237_1 ((zaR t234 x28_2).f1).length c237_1, .string (⟨#[]⟩ : ByteArray)]) ?_ 2 _ rfl; (with_reducible repeat (first | refine zaD ?_ _ | refine zaI ?_ | refine zaE ?_ _)); refine zaK (cs := #[.string ((zaR t234 x28_2).f0), .slice none 0 0, .string (⟨#[]⟩ : ByteArray)]) ?_ 1 _ rfl; (with_reducible repeat (first | refine zaD ?_ _ | refine zaI ?_ | refine zaE ?_ _)); refine zaK (cs := #[.string (⟨#[]⟩ : ByteArray), .slice none 0 0, .string (⟨#[]⟩ : ByteArray)]) ?_ 0 _ rfl; (with_reducible repeat (first | refine zaD ?_ _ | refine zaI ?_ | refine zaE ?_ _)); exact BK238.out) hg (Kd.R_ne HO_4.out BK238.out d9)); have n3_ := zaa.mk (hb); have n4_ := zaa.mk (ho); clear HO_26; clear HL237_1; clear BK238; clear HB; clear HO_4; have HO_26 := n0_; have HL237_1 := n1_; have BK238 := n2_; have HB := n3_; have HO241 := n4_; clear n0_ n1_ n2_ n3_ n4_; clear ho hb hg hat))
          go_roundg k2
          case measure => have := HK1.out; have := HK2.out; omega
          case rel => exact ⟨(y239), (wrap64 (x28_2 + 1)), (by first | rfl | (simp; done) | (simp [*]; done)), H', ⟨by have := HK1.out; have := HK2.out; omega⟩, ⟨by (with_reducible repeat (first | apply Kd.zax | apply Kd.zay | apply Kd.zaC)); exact HO241.out⟩, ⟨by (with_reducible repeat (first | apply Kd.ze0 | apply Kd.zeP | apply Kd.zga)); exact Kd.zdO HO_26.out (fun _ hk => trivial)⟩, ⟨by repeat (first | (with_reducible first | exact HB.out | apply zad | apply zac | apply zae | refine zav ?_ GE238.out) | exact HB.out)⟩⟩
         ·
          rw [if_neg c19] at H
          exact absurd H s9
        ·
         rw [if_neg c18] at H
         exact absurd H s9
       ·
        rw [if_neg c17] at H
        exact absurd H s9
      ·
       rw [if_neg c16] at H
       have c16b0 : decide (x28_2 < (t234.length : Int)) = false := decide_eq_false c16
       clear c16
       obtain rfl := Option.some.inj H
       go_wp2
       go_ret
       exact ⟨_, by first | rfl | (simp [zaS, zaT] <;> rfl) | (simp [*, zaS, zaT] <;> rfl), by (with_reducible repeat (first | apply Kd.zax | apply Kd.zay | apply Kd.zaC)); exact HO_4.out, by repeat (first | (with_reducible first | exact HB.out | apply zad | apply zac | apply zae) | exact HB.out)⟩
open Go.Proofs.YtofoegknealilaaDoorTab in
def zas.fits (c : S44) : Bool :=
 decide (c.f0.size ≤ 9223372036854775807) && decide (c.f1.size ≤ 9223372036854775807) && decide (c.f2.length < 1000000) && c.f2.all (fun v => decide (v.f0.size ≤ 9223372036854775807) && decide (v.f1.size ≤ 9223372036854775807)) && decide (c.f3.length < 1000000) &&
  c.f3.all fun m => decide (m.f0.size ≤ 9223372036854775807) && decide (m.f2.size ≤ 9223372036854775807) && decide (m.f1.length < 1000000) && m.f1.all fun p => decide (p.f0.size ≤ 9223372036854775807) && decide (p.f1.size ≤ 9223372036854775807)
open Go.Proofs.YtofoegknealilaaDoorTab in
theorem zas.ziE {c : S44} (h : zas.fits c = true) : Fits c := by
 unfold zas.fits at h
 simp only [Bool.and_eq_true, decide_eq_true_eq, List.all_eq_true] at h
 obtain ⟨⟨⟨⟨⟨h0, h1⟩, h2⟩, h3⟩, h4⟩, h5⟩ := h
 exact ⟨h0, h1, h2, h3, h4, fun m hm => ⟨(h5 m hm).1.1.1, (h5 m hm).1.1.2, (h5 m hm).1.2, (h5 m hm).2⟩⟩
def zas.mb (k : Nat) (l0 : List (S44)) (cls : ByteArray) : List (S50) := (zar.f k l0 cls).getD []
open Go.Proofs.YtofoegknealilaaDoorTab in
def zas.ok (k : Nat) (l0 : List (S44)) : Bool := zaU.small l0 && l0.all fun c => zas.fits c && decide ((zbe l0 c.f1).length < 4398046511104) && (zar.f k l0 c.f1).isSome && decide ((zas.mb k l0 c.f1).length < 4398046511104)
open Go.Proofs.YtofoegknealilaaDoorTab in
def zas.f (k : Nat) (l0 : List (S44)) : Option (Int × Int) := if zas.ok k l0 = true then some ((zbZ l0 (zas.mb k l0)).1, ((zbZ l0 (zas.mb k l0)).2 : Int)) else none
open Go.Proofs.YtofoegknealilaaDoorTab in
theorem zas.zia (l0 : List (S44)) (m1 m2 : ByteArray → List (S50)) (h : ∀ i, i < l0.length → m1 (clsAt l0 i).f1 = m2 (clsAt l0 i).f1) : zbZ l0 m1 = zbZ l0 m2 := by
 have hl : ∀ k i, i < l0.length → lookF l0 m1 k i = lookF l0 m2 k i := fun k i hi => by
  match k with
  | 0 => rfl
  | 1 => rfl
  | k + 2 => show ownF l0 (m1 (clsAt l0 i).f1) i = ownF l0 (m2 (clsAt l0 i).f1) i; rw [h i hi]
 have hs : ∀ k (l : List Nat), (∀ i ∈ l, i < l0.length) → scanL (lookF l0 m1 k) l = scanL (lookF l0 m2 k) l := fun k l => by
  induction l with
  | nil => intro _; rfl
  | cons i r ih => intro hi; unfold scanL; rw [hl k i (hi i List.mem_cons_self), ih (fun j hj => hi j (List.mem_cons_of_mem _ hj))]
 have hr : ∀ ks, zb9 l0 m1 ks = zb9 l0 m2 ks := fun ks => by
  induction ks with
  | nil => rfl
  | cons k r ih =>
   unfold zb9
   rw [hs k _ (fun i hi => List.mem_range.1 hi), ih]
   cases hc : scanL (lookF l0 m2 k) (List.range l0.length) with
   | none => rfl
   | some i =>
    have : i < l0.length := by
     have key : ∀ l : List Nat, scanL (lookF l0 m2 k) l = some i → i ∈ l := fun l => by
      induction l with
      | nil => intro h; simp [scanL] at h
      | cons j r ih =>
       intro h; unfold scanL at h
       by_cases hj : lookF l0 m2 k j = 0
       ·
        rw [if_pos hj] at h; exact List.mem_cons_of_mem _ (ih h)
       ·
        rw [if_neg hj] at h; cases h; exact List.mem_cons_self
     exact List.mem_range.1 (key _ hc)
    simp only [hl k i this]
 unfold zbZ
 rw [hr]
theorem zas.zd1 {l0 : List (S44)} {i : Nat} (h : i < l0.length) : Go.Proofs.YtofoegknealilaaDoorTab.clsAt l0 i ∈ l0 := by
 unfold Go.Proofs.YtofoegknealilaaDoorTab.clsAt zai
 rw [Int.toNat_natCast, List.getD_eq_getElem?_getD, List.getElem?_eq_getElem h]
 exact List.getElem_mem h
open Go.Proofs.YtofoegknealilaaDoorTab in
theorem zas.mono : ∀ l0 k, LeO (zas.f k l0) (zas.f (k + 1) l0) := by
 intro l0 k r h
 unfold zas.f at h ⊢
 by_cases ho : zas.ok k l0 = true
 ·
  rw [if_pos ho] at h
  have hc : ∀ c ∈ l0, zar.f (k + 1) l0 c.f1 = zar.f k l0 c.f1 := fun c hc => by
   unfold zas.ok at ho
   simp only [Bool.and_eq_true, List.all_eq_true] at ho
   obtain ⟨L, hL⟩ := Option.isSome_iff_exists.1 (ho.2 c hc).1.2
   rw [hL]; exact zar.mono l0 c.f1 k L hL
  have ho2 : zas.ok (k + 1) l0 = true := by
   unfold zas.ok at ho ⊢
   simp only [Bool.and_eq_true, List.all_eq_true] at ho ⊢
   refine ⟨ho.1, fun c h => ?_⟩
   have hm : zas.mb (k + 1) l0 c.f1 = zas.mb k l0 c.f1 := by unfold zas.mb; rw [hc c h]
   rw [hc c h, hm]; exact ho.2 c h
  rw [if_pos ho2, zas.zia l0 (zas.mb (k + 1) l0) (zas.mb k l0) (fun i hi => by unfold zas.mb; rw [hc _ (zas.zd1 hi)])]
  exact h
 ·
  rw [if_neg ho] at h; cases h
open Go.Proofs.YtofoegknealilaaDoorTab in
theorem zas.calls (k : Nat) (A0 : Option Addr) (c0 : Nat) (l0 : List (S44)) (r1 : Int) (r2 : Int) (w : World) (hr0 : Kd.C k44 w A0 l0.length l0) (hc0 : l0.length ≤ c0) (h : zas.f k l0 = some (r1, r2)) (hG : GW w := by exact Go.Proofs.YtofoegknealilaaDoorTab.GW.below hG (by repeat (first | (with_reducible first | exact HB.out | apply zad | apply zac | apply zae) | exact HB.out | exact Below.refl _ _))) :
  Calls Tryd.prog 17 #[.slice A0 l0.length c0] w fun e w' => e = .returned (.agg #[.int .i64 r1, .int .i64 r2]) ∧ Below w.heap.size w w' := by
 unfold zas.f at h
 by_cases ho : zas.ok k l0 = true
 ·
  rw [if_pos ho] at h
  cases h
  unfold zas.ok at ho
  simp only [Bool.and_eq_true, List.all_eq_true, decide_eq_true_eq] at ho
  refine zfG A0 c0 l0 (zas.mb k l0) w hr0 (fun i hi w' hb => ?_) ⟨zaU.zf9 ho.1, fun i hi => zas.ziE (ho.2 _ (zas.zd1 hi)).1.1.1, fun i hi => (ho.2 _ (zas.zd1 hi)).1.1.2, fun i hi => (ho.2 _ (zas.zd1 hi)).2⟩ hG
  obtain ⟨L, hL⟩ := Option.isSome_iff_exists.1 (ho.2 _ (zas.zd1 hi)).1.2
  have hm : zas.mb k l0 (clsAt l0 i).f1 = L := by unfold zas.mb; rw [hL]; rfl
  rw [hm]
  exact zar.calls k A0 c0 l0 _ L w' (Kd.zaF hr0 hb) hc0 hL
 ·
  rw [if_neg ho] at h; cases h
end Go.Proofs.YtofoegknealilaaDoor.PAll
end

section
namespace Go.Proofs.YtofoegknealilaaDoorTab
open Go.RowKit Go.Proofs.YtofoegknealilaaDoor.PAll Go.Proofs.YtofoegknealilaaDoorW.PrintWords Go.Proofs.YtofoegknealilaaDoorW.PrintLast Go.Proofs.YtofoegknealilaaDoorRF Go.Proofs.YtofoegknealilaaDoorRG Go.Proofs.YtofoegknealilaaDoorWords
attribute [local go_sem] Oper.semAt_some
def idxP {α : Type} (p : α → Bool) : List α → Nat → Int
 | [], _ => -1
 | x :: r, i => if p x = true then (i : Int) else idxP p r (i + 1)
theorem zgP {α : Type} (p : α → Bool) (z : α) (l : List α) (i : Nat) (h : i < l.length) : idxP p (l.drop i) i = if p (l.getD i z) = true then (i : Int) else idxP p (l.drop (i + 1)) (i + 1) := by
 rw [List.drop_eq_getElem_cons h, List.getD_eq_getElem?_getD, List.getElem?_eq_getElem h]; rfl
theorem ze4 {α : Type} (p : α → Bool) : ∀ (l : List α) (i : Nat), decide (idxP p l i ≥ 0) = l.any p
 | [], i => rfl
 | x :: r, i => by
  unfold idxP
  by_cases h : p x = true
  ·
   rw [if_pos h]; simp [h]
  ·
   rw [if_neg h, ze4 p r (i + 1)]; simp [h]
theorem zdX (t : List (S44)) : ∀ (k : Nat) (pre : List Nat) (nm : ByteArray), (lineP t k pre nm).length ≤ k
 | 0, _, _ => by simp [lineP]
 | k + 1, pre, nm => by
  unfold lineP
  split
  ·
   simp
  ·
   split
   ·
    simp
   ·
    have := zdX t k (pre ++ [(idxC nm t 0).toNat]) (clsAt t (idxC nm t 0).toNat).f1
    simp only [List.length_cons]; omega
theorem zdP (t : List (S44)) (nm : ByteArray) (h : t.length < 1000000) : (supL t nm).length < 4398046511104 := by
 have := zdX t (t.length + 1) [] nm
 have h2 : (supL t nm).length = (lineL t nm).length := by simp [supL]
 unfold lineL at h2; omega
def zbt (t : List (S44)) (s : ByteArray) : Bool := is1 t s || (s.toList == [63]) || ((tag2 s).2 == 0)
theorem zfN (A0 : Option Addr) (c0 : Nat) (t : List (S44)) (s : ByteArray) (w : World) (hr0 : Kd.C k44 w A0 t.length t) (hlt : t.length < 1000000) :
  Calls Tryd.prog 40 #[.agg #[.slice A0 t.length c0], .string s] w fun e w' => e = .returned (.bool (zbt t s)) ∧ Below w.heap.size w w' := by
 have hu := Tryd.underlying64
 obtain ⟨w1, hw1⟩ : ∃ w1, w1 = w.alloc (.cells #[.slice A0 t.length c0] 64) := ⟨_, rfl⟩
 have hb1 : Below w.heap.size w w1 := by rw [hw1]; exact (Below.refl _ _).alloc (Nat.le_refl _) _
 have HF := zaa.mk (zb6 A0 c0 t s w1 (Kd.zaF hr0 hb1) o9)
 have HB := zaa.mk hb1
 obtain ⟨r, hr⟩ : ∃ r, r = zbt t s := ⟨_, rfl⟩
 rw [← hr]
 have HQ := zaa.mk hr
 unfold zbt at HQ
 obtain ⟨b1, h1⟩ : ∃ b1, b1 = is1 t s := ⟨_, rfl⟩
 obtain ⟨b2, h2⟩ : ∃ b2, b2 = (s.toList == [63]) := ⟨_, rfl⟩
 rw [← h1] at HF HQ
 rw [← h2] at HQ
 clear hr h1 hr0 hb1
 go_enter Tryd.func40, Tryd.ntmps40
 go_wp2_with fail
 rw [← hw1]
 clear hw1
 refine HF.out.mono ?_
 rintro e w2 ⟨rfl, hb⟩
 replace HB := zaa.mk (HB.out.trans (hb.mono HB.out.size))
 have HBA := zaa.mk (zex s w2)
 clear hb HF
 cases b1 with
 | true =>
  go_wp2_with fail
  go_ret
  exact ⟨by rw [HQ.out]; rfl, HB.out⟩
 | false =>
  have hq : (s.toList == [63]) = b2 := h2.symm
  clear h2
  cases b2 with
  | true =>
   go_wp2_with fail
   go_ret
   exact ⟨by rw [HQ.out]; rfl, HB.out⟩
  | false =>
   obtain ⟨b3, h3⟩ : ∃ b3, b3 = ((tag2 s).2 == 0) := ⟨_, rfl⟩
   rw [← h3] at HBA HQ
   clear h3
   go_wp2_with fail
   refine HBA.out.mono ?_
   rintro e w3 ⟨rfl, hb⟩
   replace HB := zaa.mk (HB.out.trans (hb.mono HB.out.size))
   clear hb HBA
   go_wp2_with fail
   go_ret
   exact ⟨by rw [HQ.out]; rfl, HB.out⟩
theorem zc6 (A0 : Option Addr) (c0 : Nat) (t : List (S44)) (s : ByteArray) (p : Nat) (w : World) (hp : w.heap[p]? = some (.cells #[.slice A0 t.length c0] 64 (0, 0))) (hr0 : Kd.C k44 w A0 t.length t) (hlt : t.length < 1000000) :
  Calls Tryd.prog 39 #[.string s, .pointer (some ⟨p, 0, none⟩)] w fun e w' => e = .returned (.bool (!zbt t s)) ∧ Below w.heap.size w w' := by
 have hu := Tryd.underlying64
 have HT := zaa.mk (zfN A0 c0 t s w hr0 hlt)
 have p0 := zao hp 0
 simp only [ga] at p0
 obtain ⟨r, hr⟩ : ∃ r, r = zbt t s := ⟨_, rfl⟩
 rw [← hr] at HT ⊢
 clear hr hr0
 go_enter Tryd.func39, Tryd.ntmps39
 go_wp2_with fail
 refine HT.out.mono ?_
 rintro e w2 ⟨rfl, hb⟩
 have HB := zaa.mk hb
 clear hb HT
 go_wp2_with fail
 go_ret
 exact ⟨rfl, HB.out⟩
theorem zc9 (A0 : Option Addr) (c0 : Nat) (t : List (S44)) (cls s : ByteArray) (w : World) (hr0 : Kd.C k44 w A0 t.length t) (hlt : t.length < 1000000) :
  Calls Tryd.prog 32 #[.agg #[.slice A0 t.length c0, .string cls], .string s] w fun e w' => e = .returned (.bool (hasN s (supL t cls))) ∧ Below w.heap.size w w' := by
 have hu := Tryd.underlying64
 have hu2 := Tryd.underlying71
 obtain ⟨w1, hw1⟩ : ∃ w1, w1 = w.alloc (.cells #[.slice A0 t.length c0, .string cls] 71) := ⟨_, rfl⟩
 have hb1 : Below w.heap.size w w1 := by rw [hw1]; exact (Below.refl _ _).alloc (Nat.le_refl _) _
 have HF := zaa.mk (zco A0 c0 t cls w1 (Kd.zaF hr0 hb1) o9)
 have HB := zaa.mk hb1
 have HL := zaa.mk (zdP t cls hlt)
 obtain ⟨L, hL⟩ : ∃ L, L = supL t cls := ⟨_, rfl⟩
 rw [← hL] at HF HL ⊢
 clear hL hr0 hb1
 go_enter Tryd.func32, Tryd.ntmps32
 go_wp2_with fail
 rw [← hw1]
 clear hw1
 refine HF.out.mono ?_
 rintro e w2 ⟨v, rfl, hR, hb⟩
 obtain ⟨A2, c2, rfl, _, hC⟩ := Kd.zbK hR
 replace HB := zaa.mk (HB.out.trans (hb.mono HB.out.size))
 have HK := zaa.mk (zbl A2 c2 L s w2 hC HL.out)
 clear hb hC hR HF
 go_wp2_with fail
 refine HK.out.mono ?_
 rintro e w3 ⟨rfl, rfl⟩
 clear HK
 go_wp2_with fail
 go_ret
 exact ⟨rfl, HB.out⟩
theorem zft (A1 : Option Addr) (c1 : Nat) (l0 : List ByteArray) (hl : l0.length < 4398046511104) (A0 : Option Addr) (c0 : Nat) (t : List (S44)) (p : Nat) (w : World) (hp : w.heap[p]? = some (.cells #[.slice A0 t.length c0] 64 (0, 0))) (hr0 : Kd.C k44 w A0 t.length t) (hlt : t.length < 1000000) (hr1 : Kd.C Kd.string w A1 l0.length l0) :
  Calls Tryd.prog 52 #[.slice A1 l0.length c1, .func (.func 39) #[] #[.pointer (some ⟨p, 0, none⟩)]] w fun e w' => e = .returned (.int .i64 (idxP (fun s => !zbt t s) l0 0)) ∧ Below w.heap.size w w' := by
 have HR1 := zaa.mk hr1
 have HR0 := zaa.mk hr0
 have HP := zaa.mk hp
 clear hr0 hp
 obtain ⟨r, hr⟩ : ∃ r, r = idxP (fun s => !zbt t s) l0 0 := ⟨_, rfl⟩
 rw [← hr]
 have HH := zaa.mk hr.symm
 clear hr1 hr
 go_enter Tryd.func52, Tryd.ntmps52
 go_wp2
 go_loopw [8] (fun v8 wr => ∃ i : Nat, i ≤ l0.length ∧ v8 = .int .i64 i ∧ zaa (idxP (fun s => !zbt t s) (l0.drop i) i = r ∧ Below w.heap.size w wr)) (fun v8 _ => l0.length - (intOf v8).toNat)
 case atStart => exact ⟨0, Nat.zero_le _, rfl, ⟨HH.out, Below.refl _ _⟩⟩
 case round =>
  obtain ⟨i, hi, rfl, ⟨hI, hB⟩⟩ := hrel
  have HB := zaa.mk hB
  by_cases hil : i < l0.length
  ·
   obtain ⟨ad, hA, x0⟩ := Kd.zcb (Kd.zaF HR1.out hB) (i : Int) o9 o9
   rw [Int.toNat_natCast] at x0
   have HA := zgP (fun s => !zbt t s) ByteArray.empty l0 i hil
   rw [hI] at HA
   obtain ⟨x, hx⟩ : ∃ x, x = l0.getD i ByteArray.empty := ⟨_, rfl⟩
   have hx2 : rdOf ByteArray.empty l0 (i : Int) = x := by rw [hx]; unfold rdOf; rw [Int.toNat_natCast]
   rw [← hx] at HA
   rw [hx2] at x0
   clear hx hx2 hI hB
   subst hA
   by_cases he : (fun s => !zbt t s) x = true
   ·
    rw [if_pos he] at HA
    have HQ := zaa.mk he
    subst HA
    clear he
    go_wp2_with fail
    refine (zc6 A0 c0 t x p wr ((HB.out.block p (zaz HP.out)).trans HP.out) (Kd.zaF HR0.out HB.out) hlt).mono ?_
    rintro e w2 ⟨rfl, hb⟩
    rw [show (!zbt t x) = true from HQ.out]
    have HB2 := zaa.mk (HB.out.trans (hb.mono HB.out.size))
    clear hb
    go_wp2_with fail
    go_ret
    exact ⟨rfl, HB2.out⟩
   ·
    rw [if_neg he] at HA
    have HQ := zaa.mk (show (fun s => !zbt t s) x = false by simpa using he)
    have HA2 := zaa.mk HA.symm
    clear he HA
    go_wp2_with fail
    refine (zc6 A0 c0 t x p wr ((HB.out.block p (zaz HP.out)).trans HP.out) (Kd.zaF HR0.out HB.out) hlt).mono ?_
    rintro e w2 ⟨rfl, hb⟩
    rw [show (!zbt t x) = false from HQ.out]
    have HB2 := zaa.mk (HB.out.trans (hb.mono HB.out.size))
    clear hb
    go_wp2_with fail
    go_roundw
    case rel => exact ⟨i + 1, by omega, by go_num, ⟨HA2.out, HB2.out⟩⟩
    case measure => simp [intOf]; omega
  ·
   have hi2 : i = l0.length := by omega
   rw [hi2, List.drop_length] at hI
   have HA2 := zaa.mk hI
   clear hI hi2 hB
   go_wp2_with fail
   go_ret
   exact ⟨by rw [← HA2.out]; rfl, HB.out⟩
theorem zgv (A1 : Option Addr) (c1 : Nat) (l0 : List ByteArray) (hl : l0.length < 4398046511104) (A0 : Option Addr) (c0 : Nat) (t : List (S44)) (p : Nat) (w : World) (hp : w.heap[p]? = some (.cells #[.slice A0 t.length c0] 64 (0, 0))) (hr0 : Kd.C k44 w A0 t.length t) (hlt : t.length < 1000000) (hr1 : Kd.C Kd.string w A1 l0.length l0) :
  Calls Tryd.prog 31 #[.slice A1 l0.length c1, .func (.func 39) #[] #[.pointer (some ⟨p, 0, none⟩)]] w fun e w' => e = .returned (.bool (l0.any (fun s => !zbt t s))) ∧ Below w.heap.size w w' := by
 have HI := zaa.mk (zft A1 c1 l0 hl A0 c0 t p w hp hr0 hlt hr1)
 rw [← ze4 (fun s => !zbt t s) l0 0]
 obtain ⟨r, hr⟩ : ∃ r, r = idxP (fun s => !zbt t s) l0 0 := ⟨_, rfl⟩
 rw [← hr] at HI ⊢
 clear hr1 hr
 go_enter Tryd.func31, Tryd.ntmps31
 go_wp2_with fail
 refine HI.out.mono ?_
 rintro e w1 ⟨rfl, hb⟩
 have HB := zaa.mk hb
 clear HI hb
 go_wp2_with fail
 go_ret
 exact ⟨rfl, HB.out⟩
theorem zfx (A1 : Option Addr) (c1 : Nat) (l0 : List ByteArray) (hl : l0.length < 4398046511104) (A0 : Option Addr) (c0 : Nat) (t : List (S44)) (cls : ByteArray) (w : World) (hr0 : Kd.C k44 w A0 t.length t) (hlt : t.length < 1000000) (hr1 : Kd.C Kd.string w A1 l0.length l0) :
  Calls Tryd.prog 52 #[.slice A1 l0.length c1, .func (.func 32) #[.agg #[.slice A0 t.length c0, .string cls]] #[]] w fun e w' => e = .returned (.int .i64 (idxP (fun s => hasN s (supL t cls)) l0 0)) ∧ Below w.heap.size w w' := by
 have HR1 := zaa.mk hr1
 have HR0 := zaa.mk hr0
 clear hr0
 obtain ⟨r, hr⟩ : ∃ r, r = idxP (fun s => hasN s (supL t cls)) l0 0 := ⟨_, rfl⟩
 rw [← hr]
 have HH := zaa.mk hr.symm
 clear hr1 hr
 go_enter Tryd.func52, Tryd.ntmps52
 go_wp2
 go_loopw [8] (fun v8 wr => ∃ i : Nat, i ≤ l0.length ∧ v8 = .int .i64 i ∧ zaa (idxP (fun s => hasN s (supL t cls)) (l0.drop i) i = r ∧ Below w.heap.size w wr)) (fun v8 _ => l0.length - (intOf v8).toNat)
 case atStart => exact ⟨0, Nat.zero_le _, rfl, ⟨HH.out, Below.refl _ _⟩⟩
 case round =>
  obtain ⟨i, hi, rfl, ⟨hI, hB⟩⟩ := hrel
  have HB := zaa.mk hB
  by_cases hil : i < l0.length
  ·
   obtain ⟨ad, hA, x0⟩ := Kd.zcb (Kd.zaF HR1.out hB) (i : Int) o9 o9
   rw [Int.toNat_natCast] at x0
   have HA := zgP (fun s => hasN s (supL t cls)) ByteArray.empty l0 i hil
   rw [hI] at HA
   obtain ⟨x, hx⟩ : ∃ x, x = l0.getD i ByteArray.empty := ⟨_, rfl⟩
   have hx2 : rdOf ByteArray.empty l0 (i : Int) = x := by rw [hx]; unfold rdOf; rw [Int.toNat_natCast]
   rw [← hx] at HA
   rw [hx2] at x0
   clear hx hx2 hI hB
   subst hA
   by_cases he : (fun s => hasN s (supL t cls)) x = true
   ·
    rw [if_pos he] at HA
    have HQ := zaa.mk he
    subst HA
    clear he
    go_wp2_with fail
    refine (zc9 A0 c0 t cls x wr (Kd.zaF HR0.out HB.out) hlt).mono ?_
    rintro e w2 ⟨rfl, hb⟩
    rw [show hasN x (supL t cls) = true from HQ.out]
    have HB2 := zaa.mk (HB.out.trans (hb.mono HB.out.size))
    clear hb
    go_wp2_with fail
    go_ret
    exact ⟨rfl, HB2.out⟩
   ·
    rw [if_neg he] at HA
    have HQ := zaa.mk (show (fun s => hasN s (supL t cls)) x = false by simpa using he)
    have HA2 := zaa.mk HA.symm
    clear he HA
    go_wp2_with fail
    refine (zc9 A0 c0 t cls x wr (Kd.zaF HR0.out HB.out) hlt).mono ?_
    rintro e w2 ⟨rfl, hb⟩
    rw [show hasN x (supL t cls) = false from HQ.out]
    have HB2 := zaa.mk (HB.out.trans (hb.mono HB.out.size))
    clear hb
    go_wp2_with fail
    go_roundw
    case rel => exact ⟨i + 1, by omega, by go_num, ⟨HA2.out, HB2.out⟩⟩
    case measure => simp [intOf]; omega
  ·
   have hi2 : i = l0.length := by omega
   rw [hi2, List.drop_length] at hI
   have HA2 := zaa.mk hI
   clear hI hi2 hB
   go_wp2_with fail
   go_ret
   exact ⟨by rw [← HA2.out]; rfl, HB.out⟩
theorem zgz (A1 : Option Addr) (c1 : Nat) (l0 : List ByteArray) (hl : l0.length < 4398046511104) (A0 : Option Addr) (c0 : Nat) (t : List (S44)) (cls : ByteArray) (w : World) (hr0 : Kd.C k44 w A0 t.length t) (hlt : t.length < 1000000) (hr1 : Kd.C Kd.string w A1 l0.length l0) :
  Calls Tryd.prog 31 #[.slice A1 l0.length c1, .func (.func 32) #[.agg #[.slice A0 t.length c0, .string cls]] #[]] w fun e w' => e = .returned (.bool (l0.any (fun s => hasN s (supL t cls)))) ∧ Below w.heap.size w w' := by
 have HI := zaa.mk (zfx A1 c1 l0 hl A0 c0 t cls w hr0 hlt hr1)
 rw [← ze4 (fun s => hasN s (supL t cls)) l0 0]
 obtain ⟨r, hr⟩ : ∃ r, r = idxP (fun s => hasN s (supL t cls)) l0 0 := ⟨_, rfl⟩
 rw [← hr] at HI ⊢
 clear hr1 hr
 go_enter Tryd.func31, Tryd.ntmps31
 go_wp2_with fail
 refine HI.out.mono ?_
 rintro e w1 ⟨rfl, hb⟩
 have HB := zaa.mk hb
 clear HI hb
 go_wp2_with fail
 go_ret
 exact ⟨rfl, HB.out⟩
theorem zeu (A0 : Option Addr) (c0 : Nat) (t : List (S44)) (A1 : Option Addr) (c1 : Nat) (l : List ByteArray) (ca cb : Int) (w : World) (hr0 : Kd.C k44 w A0 t.length t) (hlt : t.length < 1000000) (hr1 : Kd.C Kd.string w A1 l.length l) (hl : l.length < 4398046511104)
  (HCK : ∀ w', Below w.heap.size w w' → Calls Tryd.prog 17 #[.slice A0 t.length c0] w' fun e w'' => e = .returned (.agg #[.int .i64 ca, .int .i64 cb]) ∧ Below w'.heap.size w' w'') :
  Calls Tryd.prog 22 #[.slice A0 t.length c0, .slice A1 l.length c1] w fun e w' => e = .returned (.bool ((ca == 0) && (cb == 0) && !(l.any fun s => !zbt t s))) ∧ Below w.heap.size w w' := by
 have hu := Tryd.underlying64
 have huF := Tryd.underlying36
 have hmf : ∀ (fn : Fn) (first cap : Array Value) (w : World), (Instr.makeFunc fn first cap).run Tryd.prog w = .ok (.func fn first cap) w := fun _ _ _ _ => rfl
 obtain ⟨w1, hw1⟩ : ∃ w1, w1 = w.alloc (.cells #[.slice A0 t.length c0] 64) := ⟨_, rfl⟩
 have hb1 : Below w.heap.size w w1 := by rw [hw1]; exact (Below.refl _ _).alloc (Nat.le_refl _) _
 have hp1 : w1.heap[w.heap.size]? = some (.cells #[.slice A0 t.length c0] 64 (0, 0)) := by rw [hw1]; exact at_new w _ rfl
 have HF := zaa.mk (HCK w1 hb1)
 have HB := zaa.mk hb1
 have HP := zaa.mk hp1
 have HR0 := zaa.mk hr0
 have HR1 := zaa.mk hr1
 have HLT := zaa.mk hlt
 have HLL := zaa.mk hl
 clear hr0 hr1 hb1 hp1 HCK hlt hl
 obtain ⟨q2, hq2⟩ : ∃ q2, q2 = (l.any fun s => !zbt t s) := ⟨_, rfl⟩
 rw [← hq2]
 obtain ⟨r, hr⟩ : ∃ r, r = ((ca == 0) && (cb == 0) && !q2) := ⟨_, rfl⟩
 rw [← hr]
 have HRR := zaa.mk hr
 have HQ2 := zaa.mk hq2
 clear hq2 hr
 go_enter Tryd.func22, Tryd.ntmps22
 go_wp2_with fail
 rw [← hw1]
 clear hw1
 refine HF.out.mono ?_
 rintro e w2 ⟨rfl, hb⟩
 replace HB := zaa.mk (HB.out.trans (hb.mono HB.out.size))
 replace HP := zaa.mk ((hb.block _ (zaz HP.out)).trans HP.out)
 have HK := zaa.mk (zgv A1 c1 l HLL.out A0 c0 t w.heap.size w2 HP.out (Kd.zaF HR0.out HB.out) HLT.out (Kd.zaF HR1.out HB.out))
 clear hb HF HR0 HR1
 rw [← HQ2.out] at HK
 by_cases h1 : ca = 0
 ·
  by_cases h2 : cb = 0
  ·
   subst h1 h2
   have HR2 := zaa.mk (show r = !q2 from by rw [HRR.out]; simp)
   go_wp2_with fail
   refine HK.out.mono ?_
   rintro e w3 ⟨rfl, hb⟩
   replace HB := zaa.mk (HB.out.trans (hb.mono HB.out.size))
   clear hb HK
   go_wp2_with fail
   go_ret
   exact ⟨by rw [HR2.out]; rfl, HB.out⟩
  ·
   subst h1
   have HR2 := zaa.mk (show r = false from by rw [HRR.out]; simp [h2])
   go_wp2_with fail
   go_ret
   exact ⟨by rw [HR2.out]; rfl, HB.out⟩
 ·
  have HR2 := zaa.mk (show r = false from by rw [HRR.out]; simp [h1])
  go_wp2_with fail
  go_ret
  exact ⟨by rw [HR2.out]; rfl, HB.out⟩
theorem zfy (n : Nat) (hn : 2 ≤ n) (A : Option Addr) (c : Nat) (l : List ByteArray) (g base : Nat) (w : World) (hlt : l.length < 4398046511104)
  (hg : w.heap[g]? = some (.cells #[.slice A l.length c] 28 (0, 0))) (hR : Kd.string.R 9 w base (fun _ => True) (.slice A l.length c) l) :
  Iter Fence.wide n Tryd.prog 68 #[.pointer (some ⟨g, 0, none⟩)] (fun x : ByteArray => #[.string x]) (fun s => s <+: l) (fun s => s = l) (fun k => k = g ∨ (Value.slice A l.length c).ownBlock = some k) (fun _ => False) w := by
 intro lp J Jx O W hJ hJx hY hmv hO hOl h0
 have hn1 : 1 ≤ n - 1 := by omega
 have hB1 := hmv.at hg (fun h => h)
 have hR1 : Kd.string.R 9 W base (fun k => (Value.slice A l.length c).ownBlock = some k) (.slice A l.length c) l := Kd.zce (Kd.zcg (Kd.zb0 hR (fun k _ hk => hmv.block k hk (fun h => h)))) (fun k hk => hk)
 refine callsIn_of_wp Tryd.func68 rfl trivial ?_ rfl
 simp only [Tryd.ntmps68, List.size_toArray, List.length_cons, List.length_nil, Nat.reduceAdd, Nat.reduceSub, Array.replicate_succ, Array.replicate_zero, List.push_toArray, List.append_toArray, List.nil_append, List.cons_append]
 have hc1 := zao hB1 0
 simp only [List.getElem?_toArray, List.getElem?_cons_zero] at hc1
 have HR1 := zaa.mk hR1
 clear hR1 hR hg
 gi_wp2
 gi_loopw [7] (fun v7 wr => ∃ k : Nat, k ≤ l.length ∧ v7 = .int .i64 k ∧ zaa (J (l.take k) O wr ∧ (∀ k, O k → k < wr.heap.size) ∧ Kd.string.R 9 wr base (fun k => (Value.slice A l.length c).ownBlock = some k) (.slice A l.length c) l))
  (fun v7 _ => l.length - (intOf v7).toNat)
 case atStart => exact ⟨0, Nat.zero_le _, rfl, ⟨h0, hOl, HR1.out⟩⟩
 case round =>
  clear hc1 h0 hOl hB1
  obtain ⟨k, hk, rfl, ⟨hj, hol, hr1⟩⟩ := hrel
  have HJ := zaa.mk hj
  have HOL := zaa.mk hol
  have HR1 := zaa.mk hr1
  by_cases hlt2 : k < l.length
  ·
   obtain ⟨A', c', e', _, hC⟩ := Kd.zbK hr1
   cases e'
   obtain ⟨ad, hA, x0⟩ := Kd.zcb hC (k : Int) o9 o9
   rw [Int.toNat_natCast] at x0
   obtain ⟨x, hx⟩ : ∃ x, x = rdOf ByteArray.empty l (k : Int) := ⟨_, rfl⟩
   have htk : l.take (k + 1) = l.take k ++ [x] := by
    rw [List.take_succ_eq_append_getElem hlt2, hx]
    unfold rdOf
    rw [Int.toNat_natCast, List.getD_eq_getElem?_getD, List.getElem?_eq_getElem hlt2]; rfl
   rw [← hx] at x0
   obtain ⟨fn, tmps, assign, body, hy, hRr⟩ := hY (l.take k) x O wr HJ.out (by rw [← htk]; exact List.take_prefix _ _) HOL.out
   have HR := zaa.mk hRr
   have HTK := zaa.mk htk
   subst hA
   clear hRr hY hC hj hol hr1 htk hx
   gi_wp2
   refine ⟨fun _ => by omega, HR.out.mono ?_⟩
   rintro e W3 (⟨rfl, hJ3, hm3⟩ | ⟨rfl, hJx3, hm3⟩)
   ·
    have hr1' := Kd.zb0 (w1 := W3) HR1.out (fun j hj hl => hm3.block j hl (fun h => h.1 (hO _ (.inr hj))))
    have hJ3' := zaa.mk hJ3
    have hm3' := zaa.mk hm3
    have hr1' := zaa.mk hr1'
    clear hJ3 hm3 hy x0
    gi_wp2
    go_roundw
    case rel => exact ⟨k + 1, by omega, by go_num, ⟨by rw [HTK.out]; exact hJ3'.out, fun j hj => Nat.lt_of_lt_of_le (HOL.out j hj) hm3'.out.size, hr1'.out⟩⟩
    case measure => simp [intOf]; omega
   ·
    have hJx3' := zaa.mk hJx3
    have hm3' := zaa.mk hm3
    clear hJx3 hm3 hy x0
    gi_wp2
    refine bodyPost_ret (results_none rfl _ _ _) rfl ?_
    exact ⟨⟨_, rfl⟩, .inr ⟨_, O, hJx3'.out, fun j hj => Nat.lt_of_lt_of_le (HOL.out j hj) hm3'.out.size⟩⟩
  ·
   have hkN : k = l.length := by omega
   have HK := zaa.mk hkN
   clear hj hol hr1 hY hkN
   gi_wp2
   refine bodyPost_end (results_none rfl _ _ _) rfl ?_
   exact ⟨⟨_, rfl⟩, .inl ⟨_, O, rfl, by have h := HJ.out; rw [HK.out, List.take_length] at h; exact h, HOL.out⟩⟩
theorem zfq (A : Option Addr) (k c : Nat) (w : World) : Calls Tryd.prog 51 #[.slice A k c] w fun e w' => e = .returned (.func (.func 68) #[] #[.pointer (some ⟨w.heap.size, 0, none⟩)]) ∧ w' = w.alloc (.cells #[.slice A k c] 28) := by
 have hmf : ∀ (fn : Fn) (first cap : Array Value) (w : World), (Instr.makeFunc fn first cap).run Tryd.prog w = .ok (.func fn first cap) w := fun _ _ _ _ => rfl
 go_enter Tryd.func51, Tryd.ntmps51
 go_wp2_with fail
 go_ret
 exact ⟨rfl, rfl⟩
structure LineV (w w' : World) (L : List ByteArray) (g c : Nat) (A : Option Addr) : Prop where
 at_ : w'.heap[g]? = some (.cells #[.slice A L.length c] 28 (0, 0))
 R : Kd.string.R 9 w' w.heap.size (fun _ => True) (.slice A L.length c) L
 bl : Below w.heap.size w w'
 lo : w.heap.size ≤ g
theorem zfB (A0 : Option Addr) (c0 : Nat) (t : List (S44)) (s : ByteArray) (w : World) (hr0 : Kd.C k44 w A0 t.length t) (hlt : t.length < 1000000) :
  Calls Tryd.prog 30 #[.agg #[.slice A0 t.length c0], .string s] w fun e w' => ∃ g c A, e = .returned (.func (.func 68) #[] #[.pointer (some ⟨g, 0, none⟩)]) ∧ LineV w w' (supL t s) g c A := by
 have hu := Tryd.underlying64
 have hmf : ∀ (fn : Fn) (first cap : Array Value) (w : World), (Instr.makeFunc fn first cap).run Tryd.prog w = .ok (.func fn first cap) w := fun _ _ _ _ => rfl
 obtain ⟨w1, hw1⟩ : ∃ w1, w1 = w.alloc (.cells #[.slice A0 t.length c0] 64) := ⟨_, rfl⟩
 have hb1 : Below w.heap.size w w1 := by rw [hw1]; exact (Below.refl _ _).alloc (Nat.le_refl _) _
 have HF := zaa.mk (zco A0 c0 t s w1 (Kd.zaF hr0 hb1) o9)
 have HB := zaa.mk hb1
 obtain ⟨L, hL⟩ : ∃ L, L = supL t s := ⟨_, rfl⟩
 rw [← hL] at HF ⊢
 clear hL hr0 hb1
 go_enter Tryd.func30, Tryd.ntmps30
 go_wp2_with fail
 rw [← hw1]
 clear hw1
 refine HF.out.mono ?_
 rintro e w2 ⟨v, rfl, hR, hb⟩
 obtain ⟨A2, c2, hv⟩ := Kd.zaZ hR
 subst hv
 have HS := zaa.mk HB.out.size
 replace HB := zaa.mk (HB.out.trans (hb.mono HB.out.size))
 have HR := zaa.mk hR
 clear hb hR HF
 go_wp2_with fail
 refine (zfq A2 L.length c2 w2).mono ?_
 rintro e w3 ⟨rfl, rfl⟩
 go_wp2_with fail
 go_ret
 have hs := HB.out.size
 exact ⟨w2.heap.size, c2, A2, rfl, at_new _ _ rfl, Kd.zax (Kd.zbk HR.out HS.out) _, HB.out.alloc hs _, hs⟩
section
variable {F : Fence} {n : Nat} {P : Program} {Q : Exit → Act → World → Prop} {a : Act} {w : World} {b : Frame} {k : List Item} {cs : List Frame}
theorem zb3 {c : Code} : step P (lone (b.atR a (.code (.scope c) :: k)) cs w) = .next (lone (b.atR a (.code c :: .inScope c :: k)) cs w) :=
 step_lone_go (by simp [stepG, stepG.exec, Frame.atR])
theorem zeU {c : Code} : step P (lone (b.atR a (.inScope c :: k)) cs w) = .next (lone (b.atR a k) cs w) :=
 step_lone_go (by simp [stepG, stepG.exec, Frame.atR])
def zjj (Q : Exit → Act → World → Prop) : Exit → Act → World → Prop
 | .goto _, _, _ => False
 | e, a, w => Q e a w
theorem zgw {c : Code} (h : c.wpIn F n P (zjj Q) a w) : (Code.scope c).wpIn F n P Q a w := by
 intro b k cs hro hb hr
 have h0 : (lone (b.atR a (.code (.scope c) :: k)) cs w).fenced P F := fenced_calm hb hr rfl
 obtain ⟨e, a₁, w₁, hq, harr⟩ := h b (.inScope c :: k) cs hro hb hr
 cases e with
 | normal => exact ⟨.normal, a₁, w₁, hq, .head h0 zb3 (StepsIn.trans harr (.one (fenced_calm hb hr rfl) zeU))⟩
 | exit id =>
  have hx : exitTo id (.inScope c :: k) = exitTo id k := by simp [exitTo]
  exact ⟨.exit id, a₁, w₁, hq, fun k' hk => .head h0 zb3 (harr.1 k' (by rw [hx]; exact hk)),
   fun hr' hk => let ⟨k₁, h1, h2⟩ := harr.2 hr' (by rw [hx]; exact hk); ⟨k₁, h1, .head h0 zb3 h2⟩⟩
 | goto l => exact hq.elim
 | ret => exact ⟨_, a₁, w₁, hq, .of_steps (.one h0 zb3) harr⟩
 | panic ch => exact ⟨_, a₁, w₁, hq, .of_steps (.one h0 zb3) harr⟩
 | outgrown => exact ⟨_, a₁, w₁, hq, .of_steps (.one h0 zb3) harr⟩
end
def joinN (t : List (S44)) (s u : ByteArray) : Option ByteArray := (supL t s).find? fun n => hasN n (supL t u)
def joinF (fine : Bool) (t : List (S44)) (s u : ByteArray) : ByteArray × Bool :=
 if fine = false then (⟨#[]⟩, false) else if s.toList = u.toList then (s, true) else match joinN t s u with
  | some n => (n, true)
  | none => (⟨#[]⟩, false)
theorem zcX {w W : World} {tmps : Array Value} {x : ByteArray} {y : Bool} {J : ByteArray × Bool} (hJ : J = (x, y)) (h6 : W.heap[w.heap.size + 1]? = some (.cells #[.string x] 9 (0, 0))) (h7 : W.heap[w.heap.size + 2]? = some (.cells #[.bool y] 4 (0, 0)))
  (hp6 : tmps.getD 6 undef = .pointer (some ⟨w.heap.size + 1, 0, none⟩)) (hp7 : tmps.getD 7 undef = .pointer (some ⟨w.heap.size + 2, 0, none⟩)) (hb : Below w.heap.size w W) :
  LeavesInM Fence.wide 5 Tryd.prog Tryd.f18 tmps (fun e w' => e = .returned (.tuple #[.string J.1, .bool J.2]) ∧ Below w.heap.size w w') [] .returning W := by
 subst hJ
 exact ⟨_, zgD rfl _ _ _ _ _ _ hp6 hp7 (zcR (by simp [isAgg, run_underlying Tryd.underlying9]) h6) (zcR (by simp [isAgg, run_underlying Tryd.underlying4]) h7), rfl, hb⟩
structure JI (t : List (S44)) (u : ByteArray) (A0 : Option Addr) (c0 lb : Nat) (w : World) (pre : List ByteArray) (O : Nat → Prop) (W : World) : Prop where
 p5 : Mine w.heap.size (.cells #[.string u] 9 (0, 0)) O W
 p6 : Mine (w.heap.size + 1) (.cells #[.string ⟨#[]⟩] 9 (0, 0)) O W
 p7 : Mine (w.heap.size + 2) (.cells #[.bool false] 4 (0, 0)) O W
 p8 : Mine lb (.cells #[.slice A0 t.length c0] 64 (0, 0)) O W
 bl : Below w.heap.size w W
 lo : ∀ k, O k → w.heap.size ≤ k
 no : (pre.find? fun n => hasN n (supL t u)) = none
theorem JI.stable (t : List (S44)) (u : ByteArray) (A0 : Option Addr) (c0 lb : Nat) (w : World) : Stable (JI t u A0 c0 lb w) := fun s O O' W W' h hm h1 h2 => by
 have hst : ∀ {b : Nat} {o : Obj}, Mine b o O W → Mine b o O' W' := fun hb => Mine.stable (β := Unit) (fun _ => _) (fun _ => _) () O O' W W' hb hm h1 h2
 exact ⟨hst h.p5, hst h.p6, hst h.p7, hst h.p8, h.bl.trans (hm.below h.bl.size h.lo), fun k hk => (h2 k hk).elim (h.lo k) (fun x => by have := h.bl.size; omega), h.no⟩
theorem JI.pure {t : List (S44)} {u : ByteArray} {A0 : Option Addr} {c0 lb : Nat} {w : World} {pre pre' : List ByteArray} {O : Nat → Prop} {W W' : World} (h : JI t u A0 c0 lb w pre O W) (hb : Below W.heap.size W W') (hn : (pre'.find? fun n => hasN n (supL t u)) = none) : JI t u A0 c0 lb w pre' O W' := by
 have hst : ∀ {b : Nat} {o : Obj}, Mine b o O W → Mine b o O W' := fun hm => ⟨(hb.block _ (zaz hm.1)).trans hm.1, hm.2⟩
 exact ⟨hst h.p5, hst h.p6, hst h.p7, hst h.p8, h.bl.trans (hb.mono h.bl.size), h.lo, hn⟩
structure JX (t : List (S44)) (s u : ByteArray) (w : World) (pre : List ByteArray) (O : Nat → Prop) (W : World) : Prop where
 is : ∃ n, joinN t s u = some n ∧ Mine (w.heap.size + 1) (.cells #[.string n] 9 (0, 0)) O W
 p7 : Mine (w.heap.size + 2) (.cells #[.bool true] 4 (0, 0)) O W
 bl : Below w.heap.size w W
 lo : ∀ k, O k → w.heap.size ≤ k
theorem JX.stable (t : List (S44)) (s u : ByteArray) (w : World) : Stable (JX t s u w) := fun _ O O' W W' h hm h1 h2 => by
 have hst : ∀ {b : Nat} {o : Obj}, Mine b o O W → Mine b o O' W' := fun hb => Mine.stable (β := Unit) (fun _ => _) (fun _ => _) () O O' W W' hb hm h1 h2
 obtain ⟨n, i1, i2⟩ := h.is
 exact ⟨⟨n, i1, hst i2⟩, hst h.p7, h.bl.trans (hm.below h.bl.size h.lo), fun k hk => (h2 k hk).elim (h.lo k) (fun x => by have := h.bl.size; omega)⟩
theorem zhK {p : ByteArray → Bool} {l l' : List ByteArray} {x : ByteArray} (h : l.find? p = some x) (hp : l <+: l') : l'.find? p = some x := by
 obtain ⟨r, rfl⟩ := hp
 rw [List.find?_append, h]; rfl
theorem zgn (A0 : Option Addr) (c0 : Nat) (t : List (S44)) (s u : ByteArray) (ca cb : Int) (w : World) (hr0 : Kd.C k44 w A0 t.length t) (hlt : t.length < 1000000)
  (HCK : ∀ w', Below w.heap.size w w' → Calls Tryd.prog 17 #[.slice A0 t.length c0] w' fun e w'' => e = .returned (.agg #[.int .i64 ca, .int .i64 cb]) ∧ Below w'.heap.size w' w'') :
  Calls Tryd.prog 18 #[.slice A0 t.length c0, .string s, .string u] w fun e w' => e = .returned (.tuple #[.string (joinF ((ca == 0) && (cb == 0) && !([s, u].any fun s => !zbt t s)) t s u).1, .bool (joinF ((ca == 0) && (cb == 0) && !([s, u].any fun s => !zbt t s)) t s u).2]) ∧ Below w.heap.size w w' := by
 have hu := Tryd.underlying64
 have hu2 := Tryd.underlying71
 obtain ⟨fb, hfb⟩ : ∃ fb, fb = ((ca == 0) && (cb == 0) && !([s, u].any fun s => !zbt t s)) := ⟨_, rfl⟩
 rw [← hfb]
 obtain ⟨w0, hw0⟩ : ∃ w0, w0 = ((w.alloc (.cells #[.string u] 9)).alloc (.cells #[.string ⟨#[]⟩] 9)).alloc (.cells #[.bool false] 4) := ⟨_, rfl⟩
 have e5 : w0.heap[w.heap.size]? = some (.cells #[.string u] 9 (0, 0)) := by rw [hw0]; exact zaY (zaY (at_new _ _ rfl) _) _
 have e50 := zao e5 0
 simp only [ga] at e50
 have hs0 : w0.heap.size = w.heap.size + 3 := by rw [hw0]; simp
 obtain ⟨w1, hw1⟩ : ∃ w1, w1 = w0.alloc (.cells #[.string s, .string u] 9) := ⟨_, rfl⟩
 have hb1 : Below w.heap.size w w1 := by rw [hw1, hw0]; exact ((((Below.refl _ _).alloc (Nat.le_refl _) _).alloc s9 _).alloc (by simp; omega) _).alloc (by simp; omega) _
 have d5 : w1.heap[w.heap.size]? = some (.cells #[.string u] 9 (0, 0)) := by rw [hw1]; exact zaY e5 _
 have d6 : w1.heap[w.heap.size + 1]? = some (.cells #[.string ⟨#[]⟩] 9 (0, 0)) := by rw [hw1, hw0]; exact zaY (zaY (at_new _ _ s9) _) _
 have d7 : w1.heap[w.heap.size + 2]? = some (.cells #[.bool false] 4 (0, 0)) := by rw [hw1, hw0]; exact zaY (at_new _ _ s9) _
 have d8 : w1.heap[w.heap.size + 3]? = some (.cells #[.string s, .string u] 9 (0, 0)) := by rw [hw1]; exact at_new _ _ hs0.symm
 have hC8 : Kd.C Kd.string w1 (some ⟨w.heap.size + 3, 0, none⟩) 2 [s, u] :=
  ⟨rfl, by decide, fun _ => ⟨_, rfl, fun j p hj => ⟨[.string p], rfl, rfl, fun i v hv => by
   cases i with
   | succ i => simp at hv
   | zero =>
    cases hv
    have hj2 : j < 2 := by simpa using (List.getElem?_eq_some_iff.1 hj).1
    have h0 := zao d8 j
    rcases (by omega : j = 0 ∨ j = 1) with rfl | rfl
    ·
     cases hj; exact h0
    ·
     cases hj; exact h0⟩⟩⟩
 have hFI := zeu A0 c0 t (some ⟨w.heap.size + 3, 0, none⟩) 2 [s, u] ca cb w1 (Kd.zaF hr0 hb1) hlt hC8 s9 (fun w' h => HCK w' (hb1.trans (h.mono hb1.size)))
 rw [← hfb] at hFI
 have HFI := zaa.mk hFI
 have D5 := zaa.mk d5
 have D6 := zaa.mk d6
 have D7 := zaa.mk d7
 have HB := zaa.mk hb1
 have HR0 := zaa.mk hr0
 obtain ⟨J, hJ⟩ : ∃ J, J = joinF fb t s u := ⟨_, rfl⟩
 rw [← hJ]
 have HJ := zaa.mk hJ
 unfold joinF at HJ
 clear e5 hFI hC8 d5 d6 d7 d8 hb1 hfb hr0 HCK hJ
 refine (callsIn_wide (n := 5)).1 ?_
 refine callsIn_of_wp_marks Tryd.func18 rfl trivial ?_ rfl
 simp only [Tryd.ntmps18, List.size_toArray, List.length_cons, List.length_nil, Nat.reduceAdd, Nat.reduceSub, Array.replicate_succ, Array.replicate_zero, List.push_toArray, List.append_toArray, List.nil_append, List.cons_append]
 have HW1 := zaa.mk hw1
 have HW0 := zaa.mk hw0
 have HS0 := zaa.mk hs0
 clear hw1 hs0
 gi_wp2
 rw [← hw0]
 clear hw0
 refine zgw ?_
 gi_wp2
 rw [HS0.out, ← HW1.out]
 clear HW1 HS0 HW0 e50
 refine ⟨trivial, ((callsIn_wide (n := 4)).2 HFI.out).mono ?_⟩
 rintro e w2 ⟨rfl, hb⟩
 replace D5 := zaa.mk ((hb.block _ (zaz D5.out)).trans D5.out)
 replace D6 := zaa.mk ((hb.block _ (zaz D6.out)).trans D6.out)
 replace D7 := zaa.mk ((hb.block _ (zaz D7.out)).trans D7.out)
 replace HB := zaa.mk (HB.out.trans (hb.mono HB.out.size))
 have c5 := zao D5.out 0
 have c6 := zao D6.out 0
 have f6 := free_at D6.out 0
 have c7 := zao D7.out 0
 have f7 := free_at D7.out 0
 simp only [ga] at c5 c6 c7
 clear hb HFI
 cases fb with
 | false =>
  rw [if_pos rfl] at HJ
  gi_wp2
  exact zcX HJ.out (at_set (zaK D6.out 0 (.string ⟨#[]⟩) rfl) (p := ⟨w.heap.size + 2, 0, none⟩) s9 _) (zaK (at_set D7.out (p := ⟨w.heap.size + 1, 0, none⟩) s9 _) 0 (.bool false) rfl) rfl rfl ((HB.out.setCell (p := ⟨w.heap.size + 1, 0, none⟩) s9 _).setCell (p := ⟨w.heap.size + 2, 0, none⟩) s9 _)
 | true =>
  rw [if_neg d9] at HJ
  by_cases hsu : s.toList = u.toList
  ·
   have hq : (s.toList == u.toList) = true := by simpa using hsu
   rw [if_pos hsu] at HJ
   clear hsu
   gi_wp2
   exact zcX HJ.out (at_set (zaK D6.out 0 (.string s) rfl) (p := ⟨w.heap.size + 2, 0, none⟩) s9 _) (zaK (at_set D7.out (p := ⟨w.heap.size + 1, 0, none⟩) s9 _) 0 (.bool true) rfl) rfl rfl ((HB.out.setCell (p := ⟨w.heap.size + 1, 0, none⟩) s9 _).setCell (p := ⟨w.heap.size + 2, 0, none⟩) s9 _)
  ·
   have hq : (s.toList == u.toList) = false := by simpa using hsu
   rw [if_neg hsu] at HJ
   clear hsu
   obtain ⟨w3, hw3⟩ : ∃ w3, w3 = w2.alloc (.cells #[.slice A0 t.length c0] 64) := ⟨_, rfl⟩
   have hb3 : Below w2.heap.size w2 w3 := by rw [hw3]; exact (Below.refl _ _).alloc (Nat.le_refl _) _
   have hd3 : w3.heap[w2.heap.size]? = some (.cells #[.slice A0 t.length c0] 64 (0, 0)) := by rw [hw3]; exact at_new _ _ rfl
   have HN := zaa.mk (zfB A0 c0 t s w3 (Kd.zaF HR0.out (HB.out.trans (hb3.mono HB.out.size))) hlt)
   have HB3 := zaa.mk hb3
   have HD3 := zaa.mk hd3
   have HW3 := zaa.mk hw3
   clear hb3 hd3 hw3
   gi_wp2
   rw [← HW3.out]
   have q0 := zao HD3.out 0
   simp only [ga] at q0
   refine wpIn_label ?_
   gi_wp2
   refine ⟨trivial, ((callsIn_wide (n := 4)).2 HN.out).mono ?_⟩
   rintro e w4 ⟨g, c4, A4, rfl, hL⟩
   have HLV := zaa.mk hL
   clear hL HN
   gi_wp2
   rename_i K hKK
   have hsz2 := HB.out.size
   have hsz3 := HB3.out.size
   have hsz23 := zaz HD3.out
   have hb34 := HLV.out.bl
   have h4lt := zaz HLV.out.at_
   have hob := (Kd.za9 HLV.out.R).1
   have e5 := (hb34.block _ (zaz ((HB3.out.block _ (zaz D5.out)).trans D5.out))).trans ((HB3.out.block _ (zaz D5.out)).trans D5.out)
   have e6 := (hb34.block _ (zaz ((HB3.out.block _ (zaz D6.out)).trans D6.out))).trans ((HB3.out.block _ (zaz D6.out)).trans D6.out)
   have e7 := (hb34.block _ (zaz ((HB3.out.block _ (zaz D7.out)).trans D7.out))).trans ((HB3.out.block _ (zaz D7.out)).trans D7.out)
   have e8 := (hb34.block _ hsz23).trans HD3.out
   have hb4 : Below w.heap.size w w4 := HB.out.trans ((HB3.out.mono hsz2).trans (hb34.mono o9))
   have hlo5 := HLV.out.lo
   have hd7 := zaz D7.out
   have hA3 := zdP t s hlt
   have E5 := zaa.mk e5
   have E6 := zaa.mk e6
   have E7 := zaa.mk e7
   have E8 := zaa.mk e8
   have HB4 := zaa.mk hb4
   clear e5 e6 e7 e8 hb4 c5 c6 c7 f6 f7 q0 D5 D6 D7 HD3 HW3 hb34
   refine zdQ (n := 5) rfl o9 68 #[.pointer (some ⟨g, 0, none⟩)] rfl trivial (zcC Tryd.func68 k9 rfl)
    (fun x : ByteArray => #[.string x]) (fun _ => rfl) (fun k => k = g ∨ (Value.slice A4 (supL t s).length c4).ownBlock = some k) (fun _ => False) (fun k hk => by
     rcases hk with rfl | hk
     ·
      exact h4lt
     ·
      exact (hob k hk).2.2.1) (fun k h => h.elim)
    (zfy 4 o9 A4 c4 (supL t s) g w3.heap.size w4 hA3 HLV.out.at_ HLV.out.R)
    (JI t u A0 c0 w2.heap.size w) (fun c pre O W => c = .ret ∧ JX t s u w pre O W) (JI.stable t u A0 c0 w2.heap.size w) (fun c => (Stable.pure (fun _ => c = .ret)).and (JX.stable t s u w)) ?_
    (fun x => { tmps := #[.slice A0 t.length c0, .string s, .string u, undef, undef, .pointer (some ⟨w.heap.size, 0, none⟩), .pointer (some ⟨w.heap.size + 1, 0, none⟩), .pointer (some ⟨w.heap.size + 1 + 1, 0, none⟩), .pointer (some ⟨w2.heap.size, 0, none⟩), .string x, .slice A0 t.length c0, .string s, .string u, .slice (some ⟨w.heap.size + 3, 0, none⟩) 2 2, .bool true, .bool false, .string s, .string u, .bool false, undef, .slice A0 t.length c0,
     .agg #[.slice A0 t.length c0], .agg #[.slice A0 t.length c0], .string s, .func (.func 68) #[] #[.pointer (some ⟨g, 0, none⟩)], .string x, undef, undef, undef, undef, undef, undef, undef, undef, undef], defers := [] }) ?assign ?body ?done ?stop
   ·
    intro O hO W hW
    have hno : ∀ k, k < w3.heap.size → ¬ O k := fun k hk e => by
     rcases hO k e with (h | h) | h
     ·
      omega
     ·
      have := (hob k h).2.1; omega
     ·
      have := HLV.out.bl.size; omega
    have go : ∀ {b : Nat} {o : Obj}, w4.heap[b]? = some o → b < w3.heap.size → Mine b o O W := fun h hlt => ⟨hW.at h (fun h => h), hno _ hlt⟩
    exact ⟨go E5.out o9, go E6.out o9, go E7.out o9, go E8.out o9, HB4.out.trans (hW.below HB4.out.size (fun _ h => h.elim)), fun k hk => by
     rcases hO k hk with (h | h) | h
     ·
      omega
     ·
      have := (hob k h).2.1; omega
     ·
      have := HLV.out.bl.size; omega, rfl⟩
   case assign =>
    intro l x W K hK
    gi_wp2
    exact hK
   case body =>
    intro l pre x O W hI hpre hOl hOlp hrec hOO hsz4
    have hx0 : ∀ {p : ByteArray → Bool}, (pre ++ [x]).find? p = (pre.find? p).or (if p x then some x else none) := fun {p} => by
     rw [List.find?_append]; congr 1
     by_cases h : p x <;> simp [List.find?, h]
    have HPRE := zaa.mk hpre
    have HI := zaa.mk hI
    have hx1 := hI.no
    obtain ⟨W1, hW1⟩ : ∃ W1, W1 = W.alloc (.cells #[.string x] 9) := ⟨_, rfl⟩
    have hbW : Below W.heap.size W W1 := by rw [hW1]; exact (Below.refl _ _).alloc (Nat.le_refl _) _
    have hd : W1.heap[W.heap.size]? = some (.cells #[.string x] 9 (0, 0)) := by rw [hW1]; exact at_new _ _ rfl
    have hC1 : Kd.C Kd.string W1 (some ⟨W.heap.size, 0, none⟩) 1 [x] :=
     ⟨rfl, by decide, fun _ => ⟨_, rfl, fun j p hj => ⟨[.string p], rfl, rfl, fun i v hv => by
      cases i with
      | succ i => simp at hv
      | zero =>
       cases hv
       have hj2 : j < 1 := by simpa using (List.getElem?_eq_some_iff.1 hj).1
       have h0 := zao hd j
       obtain rfl : j = 0 := by omega
       cases hj; exact h0⟩⟩⟩
    have hAA := zgz (some ⟨W.heap.size, 0, none⟩) 1 [x] s9 A0 c0 t u W1 (Kd.zaF HR0.out (HI.out.bl.trans (hbW.mono HI.out.bl.size))) hlt hC1
    have hany : ([x].any fun s => hasN s (supL t u)) = hasN x (supL t u) := by simp
    rw [hany] at hAA
    have hsn : ((pre ++ [x]).find? fun n => hasN n (supL t u)) = if hasN x (supL t u) = true then some x else none := by rw [hx0, hx1]; rfl
    obtain ⟨b, hb⟩ : ∃ b, b = hasN x (supL t u) := ⟨_, rfl⟩
    rw [← hb] at hAA hsn
    have HAA := zaa.mk hAA
    have HSN := zaa.mk hsn
    have HBW := zaa.mk hbW
    have HW1 := zaa.mk hW1
    have p8 := zao (hbW.block _ (zaz hI.p8.1) |>.trans hI.p8.1) 0
    have p5 := zao (hbW.block _ (zaz hI.p5.1) |>.trans hI.p5.1) 0
    simp only [ga] at p8 p5
    rw [hW1] at p8 p5
    have hmf : ∀ (fn : Fn) (first cap : Array Value) (w : World), (Instr.makeFunc fn first cap).run Tryd.prog w = .ok (.func fn first cap) w := fun _ _ _ _ => rfl
    clear hx0 hx1 hany hAA hsn hb hbW hd hC1 hI hpre hOl hOlp hrec hOO hsz4 hW1
    gi_wp2
    rw [← HW1.out]
    refine ⟨trivial, (CallsIn.inRound l (callsIn_wide.2 HAA.out)).mono ?_⟩
    rintro e W2 ⟨rfl, hb2⟩
    have HB2 := zaa.mk (HBW.out.trans (hb2.mono HBW.out.size))
    clear hb2 HAA p8 p5
    cases b with
    | false =>
     gi_wp2
     exact ⟨(Mv.zcs HB2.out _), HI.out.pure HB2.out (by simpa using HSN.out)⟩
    | true =>
     have hno6 := HI.out.p6.2
     have hno7 := HI.out.p7.2
     have d6 := (HB2.out.block _ (zaz HI.out.p6.1)).trans HI.out.p6.1
     have d7 := (HB2.out.block _ (zaz HI.out.p7.1)).trans HI.out.p7.1
     have c6 := zao d6 0
     have f6 := free_at d6 0
     have c7 := zao d7 0
     have f7 := free_at d7 0
     simp only [ga] at c6 c7
     have z6 := at_set (zaK d6 0 (.string x) rfl) (p := ⟨w.heap.size + 2, 0, none⟩) s9 (.bool true)
     have z7 := zaK (at_set d7 (p := ⟨w.heap.size + 1, 0, none⟩) s9 (.string x)) 0 (.bool true) rfl
     have hmall : Mv (fun k => ¬ (O k ∨ False)) W ((W2.setCell ⟨w.heap.size + 1, 0, none⟩ (.string x)).setCell ⟨w.heap.size + 2, 0, none⟩ (.bool true)) := ((Mv.zcs HB2.out _).setCell (p := ⟨w.heap.size + 1, 0, none⟩) (.inl (by simpa using hno6)) _).setCell (p := ⟨w.heap.size + 2, 0, none⟩) (.inl (by simpa using hno7)) _
     have Z6 := zaa.mk z6
     have Z7 := zaa.mk z7
     have HM := zaa.mk hmall
     have HN6 := zaa.mk hno6
     have HN7 := zaa.mk hno7
     clear z6 z7 hmall d6 d7 hno6 hno7
     gi_wp2
     exact ⟨HM.out, rfl, ⟨x, zhK (by simpa using HSN.out) HPRE.out, Z6.out, HN6.out⟩, ⟨Z7.out, HN7.out⟩, HI.out.bl.trans ((((Mv.zcs HB2.out (fun k => w.heap.size ≤ k)).setCell (p := ⟨w.heap.size + 1, 0, none⟩) (.inl s9) _).setCell (p := ⟨w.heap.size + 2, 0, none⟩) (.inl s9) _).below HI.out.bl.size (fun _ h => h)), HI.out.lo⟩
   case done =>
    intro D xs O W hD hOD hOl hS hI hK
    subst hS
    have hj : joinN t s u = none := hI.no
    rw [hj] at HJ
    have hne : ∀ k, ¬ O k → k ≠ D := fun k h e => h (e ▸ hOD)
    have hD6 := hne _ hI.p6.2
    have hD7 := hne _ hI.p7.2
    have c6 := zao hI.p6.1 0
    have f6 := free_at hI.p6.1 0
    have c7 := zao hI.p7.1 0
    have f7 := free_at hI.p7.1 0
    simp only [ga] at c6 c7
    have HI := zaa.mk hI
    clear hI hj
    refine hKK _ _ ?_
    gi_wp2
    have hK2 := at_set (at_set hK (p := ⟨w.heap.size + 1, 0, none⟩) (Ne.symm hD6) (.string ⟨#[]⟩)) (p := ⟨w.heap.size + 2, 0, none⟩) (Ne.symm hD7) (.bool false)
    refine ⟨by simp, .inl ⟨_, _, rfl, run_takeDeferred hK2, ?_⟩⟩
    exact zcX HJ.out (zcl (at_set (zaK HI.out.p6.1 0 (.string ⟨#[]⟩) rfl) (p := ⟨w.heap.size + 2, 0, none⟩) s9 _) hD6 _) (zcl (zaK (at_set HI.out.p7.1 (p := ⟨w.heap.size + 1, 0, none⟩) s9 _) 0 (.bool false) rfl) hD7 _) rfl rfl
     (HI.out.bl.trans (((((Mv.refl (fun k => w.heap.size ≤ k) W).setCell (p := ⟨w.heap.size + 1, 0, none⟩) (.inl s9) _).setCell (p := ⟨w.heap.size + 2, 0, none⟩) (.inl s9) _).putObj (r := D) (.inl (HI.out.lo D hOD)) (.deferred none)).below HI.out.bl.size (fun _ h => h)))
   case stop =>
    rintro D c pre O W hD hOD hOl ⟨rfl, hX⟩ hK
    obtain ⟨⟨n, i1, i2⟩, i3, i4, i5⟩ := hX
    rw [i1] at HJ
    have hne : ∀ k, ¬ O k → k ≠ D := fun k h e => h (e ▸ hOD)
    gi_wp2
    refine ⟨by simp, .inl ⟨_, _, rfl, run_takeDeferred hK, ?_⟩⟩
    exact zcX HJ.out (zcl i2.1 (hne _ i2.2) _) (zcl i3.1 (hne _ i3.2) _) rfl rfl (i4.trans (((Mv.refl (fun k => w.heap.size ≤ k) W).putObj (r := D) (.inl (i5 D hOD)) (.deferred none)).below i4.size (fun _ h => h)))
end Go.Proofs.YtofoegknealilaaDoorTab
end

section
namespace Go.Proofs.YtofoegknealilaaDoor.PAll
open Go.RowKit Go.Proofs.YtofoegknealilaaDoorW.PrintWords Go.Proofs.YtofoegknealilaaDoorW.PrintLast Go.Proofs.YtofoegknealilaaDoorW.za4
attribute [local go_sem] zbg zbh zbw zbv za7 za8 zbf zbi
open Go.Proofs.YtofoegknealilaaDoorTab in
def zaP.f (k : Nat) (l0 : List (S44)) (l1 : List ByteArray) : Option Bool :=
 if l0.length < 1000000 ∧ l1.length < 1000000 then (zas.f k l0).map fun c => (c.1 == 0) && (c.2 == 0) && !(l1.any fun s => !zbt l0 s) else none
open Go.Proofs.YtofoegknealilaaDoorTab in
theorem zaP.mono : ∀ l0 l1 k, LeO (zaP.f k l0 l1) (zaP.f (k + 1) l0 l1) := by
 intro l0 l1 k r h
 unfold zaP.f at h ⊢
 by_cases hl : l0.length < 1000000 ∧ l1.length < 1000000
 ·
  rw [if_pos hl] at h ⊢
  obtain ⟨c, hc, rfl⟩ := Option.map_eq_some_iff.1 h
  rw [zas.mono l0 k c hc]; rfl
 ·
  rw [if_neg hl] at h; cases h
open Go.Proofs.YtofoegknealilaaDoorTab in
theorem zaP.calls (k : Nat) (A0 : Option Addr) (c0 : Nat) (l0 : List (S44)) (A1 : Option Addr) (c1 : Nat) (l1 : List ByteArray) (r : Bool) (w : World) (hr0 : Kd.C k44 w A0 l0.length l0) (hc0 : l0.length ≤ c0) (hr1 : Kd.C Kd.string w A1 l1.length l1) (hc1 : l1.length ≤ c1) (h : zaP.f k l0 l1 = some r) (hG : Go.Proofs.YtofoegknealilaaDoorTab.GW w := by exact Go.Proofs.YtofoegknealilaaDoorTab.GW.below hG (by repeat (first | (with_reducible first | exact HB.out | apply zad | apply zac | apply zae) | exact HB.out | refine zav ?_ (zaa.out (by assumption)) | exact Below.refl _ _))) :
  Calls Tryd.prog 22 #[.slice A0 l0.length c0, .slice A1 l1.length c1] w fun e w' => e = .returned (.bool r) ∧ Below w.heap.size w w' := by
 unfold zaP.f at h
 by_cases hl : l0.length < 1000000 ∧ l1.length < 1000000
 ·
  rw [if_pos hl] at h
  obtain ⟨c, hc, rfl⟩ := Option.map_eq_some_iff.1 h
  exact zeu A0 c0 l0 A1 c1 l1 c.1 c.2 w hr0 hl.1 hr1 o9 (fun w' hb => zas.calls k A0 c0 l0 c.1 c.2 w' (Kd.zaF hr0 hb) hc0 hc (hG := GW.below hG hb))
 ·
  rw [if_neg hl] at h; cases h
def zaA.idx (s : ByteArray) : List ByteArray → Nat → Int
 | [], _ => -1
 | x :: r, i => if s.toList = x.toList then (i : Int) else zaA.idx s r (i + 1)
def zaA.f (l0 : List ByteArray) (a1 : ByteArray) : Option Int := if l0.length < 4398046511104 then some (zaA.idx a1 l0 0) else none
theorem zaA.zi4 (s : ByteArray) (l : List ByteArray) (i : Nat) (h : i < l.length) : zaA.idx s (l.drop i) i = if s.toList = (rdOf ByteArray.empty l (i : Int)).toList then (i : Int) else zaA.idx s (l.drop (i + 1)) (i + 1) := by
 rw [List.drop_eq_getElem_cons h]
 unfold rdOf
 rw [Int.toNat_natCast, List.getD_eq_getElem?_getD, List.getElem?_eq_getElem h]; rfl
theorem zaA.calls (A0 : Option Addr) (c0 : Nat) (l0 : List ByteArray) (a1 : ByteArray) (r : Int) (w : World) (hr0 : Kd.C Kd.string w A0 l0.length l0) (hc0 : l0.length ≤ c0) (h : zaA.f l0 a1 = some r) :
  Calls Tryd.prog 41 #[.slice A0 l0.length c0, .string a1] w fun e w' => e = .returned (.int .i64 r) ∧ zbb w w' := by
 unfold zaA.f at h
 by_cases hl : l0.length < 4398046511104
 case neg => rw [if_neg hl] at h; cases h
 rw [if_pos hl] at h
 have HH := zaa.mk (Option.some.inj h)
 have HR0 := zaa.mk hr0
 clear hr0 hc0 h
 go_enter Tryd.func41, Tryd.ntmps41
 go_wp2
 go_loop [8] (fun v8 => ∃ i : Nat, i ≤ l0.length ∧ v8 = .int .i64 i ∧ zaa (zaA.idx a1 (l0.drop i) i = r)) (fun v8 => l0.length - (intOf v8).toNat)
 case atStart => exact ⟨0, Nat.zero_le _, rfl, HH⟩
 case round =>
  obtain ⟨i, hi, rfl, HI⟩ := hrel
  by_cases hlt : i < l0.length
  ·
   obtain ⟨ad, hA, x0⟩ := Kd.zcb HR0.out (i : Int) o9 o9
   rw [Int.toNat_natCast] at x0
   have HA := zaA.zi4 a1 l0 i hlt
   rw [HI.out] at HA
   obtain ⟨x, hx⟩ : ∃ x, x = rdOf ByteArray.empty l0 (i : Int) := ⟨_, rfl⟩
   rw [← hx] at HA x0
   clear hx
   subst hA
   by_cases he : a1.toList = x.toList
   ·
    rw [if_pos he] at HA
    have hq : (a1.toList == x.toList) = true := by simpa using he
    subst HA
    clear he
    go_wp2
    go_ret
    exact ⟨rfl, zbb.refl _⟩
   ·
    rw [if_neg he] at HA
    have hq : (a1.toList == x.toList) = false := by simpa using he
    have HA2 := zaa.mk HA.symm
    clear he HA
    go_wp2
    go_round
    case rel => exact ⟨i + 1, by omega, by go_num, HA2⟩
    case measure => simp [intOf]; omega
  ·
   have hi2 : i = l0.length := by omega
   have HA := HI.out
   rw [hi2, List.drop_length] at HA
   have HA2 := zaa.mk HA
   clear HA hi2
   go_wp2
   go_ret
   exact ⟨by rw [← HA2.out]; rfl, zbb.refl _⟩
def zaJ.f (l0 : List ByteArray) (a1 : ByteArray) : Option (Bool) := (zaA.f l0 a1).bind fun t104 => (some (decide (t104 ≥ 0)))
theorem zaJ.calls (A0 : Option Addr) (c0 : Nat) (l0 : List ByteArray) (a1 : ByteArray) (r : Bool) (w : World) (hr0 : Kd.C Kd.string w A0 l0.length l0) (hc0 : l0.length ≤ c0) (h : zaJ.f l0 a1 = some r) :
  Calls Tryd.prog 23 #[.slice A0 l0.length c0, .string a1] w fun e w' => e = .returned (.bool r) ∧ zbb w w' := by
 have HR0 := zaa.mk hr0
 have HC0 := zaa.mk hc0
 clear hr0 hc0
 have H : ((zaA.f l0 a1).bind fun t104 => (some (decide (t104 ≥ 0)))) = some r := h
 clear h
 replace H := Option.bind_eq_some_iff.mp H
 obtain ⟨t104, A30, H⟩ := H
 replace H : (some (decide (t104 ≥ 0))) = some r := H
 have A3 := zaa.mk A30
 clear A30
 obtain rfl := Option.some.inj H
 go_enter Tryd.func23, Tryd.ntmps23
 go_wp2_with (first | ((with_reducible refine zaO (f := 41) rfl ?_); refine zbj (some 7) rfl rfl Tryd.func41 k9 rfl #[.slice A0 l0.length c0, .string a1] rfl m9 ?_; (with_reducible refine (zaA.calls _ _ l0 a1 t104 _ ?side1 ?side2 A3.out).mono ?_); (case side1 => repeat (first | exact HR0.out | (with_reducible refine Kd.zaM ?_ _) | (with_reducible refine Kd.zaN ?_ _) | (with_reducible refine Kd.zaW ?_))); (case side2 => exact HC0.out); rintro e w' ⟨rfl, ⟨nd, rfl⟩⟩; refine ⟨_, rfl, ?_⟩))
 go_ret
 exact ⟨by first | rfl | (simp; done) | (simp [*]; done), by repeat (first | exact zbb.refl _ | apply zbb.step)⟩
open Go.Proofs.YtofoegknealilaaDoorTab in
def zbs.f (l0 : List (S44)) (a1 : ByteArray) : Option (List ByteArray) := if l0.length < 4398046511104 then some (supL l0 a1) else none
open Go.Proofs.YtofoegknealilaaDoorTab in
theorem zbs.calls (A0 : Option Addr) (c0 : Nat) (l0 : List (S44)) (a1 : ByteArray) (r : List ByteArray) (w : World) (hr0 : Kd.C k44 w A0 l0.length l0) (hc0 : l0.length ≤ c0) (h : zbs.f l0 a1 = some r) :
  Calls Tryd.prog 24 #[.slice A0 l0.length c0, .string a1] w fun e w' => ∃ v0_ : Value, e = .returned (v0_) ∧ Kd.R Kd.string 9 w' w.heap.size (fun _ => True) v0_ r ∧ Below w.heap.size w w' := by
 unfold zbs.f at h
 by_cases hl : l0.length < 4398046511104
 ·
  rw [if_pos hl] at h
  cases h
  exact zco A0 c0 l0 a1 w hr0 hl
 ·
  rw [if_neg hl] at h; cases h
def zan.f (k : Nat) (l0 : List (S44)) (a1 : ByteArray) (a2 : ByteArray) : Option (Bool) := (zaP.f k l0 (([a1, a2] : List ByteArray))).bind fun t108 => (if t108 = true then (if a1.toList = a2.toList then (some true) else ((zbs.f l0 a1).bind fun t109 => ((zaJ.f t109 a2).bind fun t112 => (some t112)))) else (some false))
theorem zan.mono : ∀ a0 a1 a2 k, LeO (zan.f k a0 a1 a2) (zan.f (k + 1) a0 a1 a2) := by
 intro a0 a1 a2 k
 unfold zan.f
 repeat' first
   | (with_reducible exact zaP.mono _ _ _)
   | (with_reducible exact LeO.refl _)
   | (with_reducible exact LeO.none _)
   | (with_reducible refine LeO.ite ?_ ?_)
   | (with_reducible refine LeO.bind ?_ (fun _ => ?_))
   | exact zaP.mono _ _ _
   | exact LeO.none _
   | refine LeO.ite ?_ ?_
   | refine LeO.bind ?_ (fun _ => ?_)
theorem zan.calls (k : Nat) (A0 : Option Addr) (c0 : Nat) (l0 : List (S44)) (a1 : ByteArray) (a2 : ByteArray) (r : Bool) (w : World) (hr0 : Kd.C k44 w A0 l0.length l0) (hc0 : l0.length ≤ c0) (h : zan.f k l0 a1 a2 = some r) (hG : Go.Proofs.YtofoegknealilaaDoorTab.GW w := by exact Go.Proofs.YtofoegknealilaaDoorTab.GW.below hG (by repeat (first | (with_reducible first | exact HB.out | apply zad | apply zac | apply zae) | exact HB.out | refine zav ?_ (zaa.out (by assumption)) | exact Below.refl _ _))) :
  Calls Tryd.prog 8 #[.slice A0 l0.length c0, .string a1, .string a2] w fun e w' => e = .returned (.bool r) ∧ Below w.heap.size w w' := by
 have HR0 := zaa.mk hr0
 have HC0 := zaa.mk hc0
 clear hr0 hc0
 have HB := zaa.mk (Below.refl w.heap.size w)
 have H : ((zaP.f k l0 (([a1, a2] : List ByteArray))).bind fun t108 => (if t108 = true then (if a1.toList = a2.toList then (some true) else ((zbs.f l0 a1).bind fun t109 => ((zaJ.f t109 a2).bind fun t112 => (some t112)))) else (some false))) = some r := h
 clear h
 obtain ⟨y105, hy105⟩ : ∃ y_ : List ByteArray, y_ = (([a1, a2] : List ByteArray)) := ⟨_, rfl⟩
 replace H : ((zaP.f k l0 y105).bind fun t108 => (if t108 = true then (if a1.toList = a2.toList then (some true) else ((zbs.f l0 a1).bind fun t109 => ((zaJ.f t109 a2).bind fun t112 => (some t112)))) else (some false))) = some r := by first | (rw [hy105]; with_reducible exact H) | (have H2_ := (Option.bind_some _ _).symm.trans H; rw [hy105]; with_reducible exact H2_) | (have H2_ := (Option.bind_some _ _).symm.trans H; with_reducible exact H2_) | with_reducible exact H | (rw [hy105]; exact H) | exact H
 have Ny105 := zaa.mk hy105
 clear hy105
 replace H := Option.bind_eq_some_iff.mp H
 obtain ⟨t108, A40, H⟩ := H
 replace H : (if t108 = true then (if a1.toList = a2.toList then (some true) else ((zbs.f l0 a1).bind fun t109 => ((zaJ.f t109 a2).bind fun t112 => (some t112)))) else (some false)) = some r := H
 have A4 := zaa.mk A40
 clear A40
 by_cases c5 : t108 = true
 ·
  subst c5
  have H1 : (if a1.toList = a2.toList then (some true) else ((zbs.f l0 a1).bind fun t109 => ((zaJ.f t109 a2).bind fun t112 => (some t112)))) = some r := by rw [if_pos rfl] at H; exact H
  clear H
  have H := H1
  clear H1
  by_cases c6 : a1.toList = a2.toList
  ·
   rw [if_pos c6] at H
   have c6b0 : (a1.toList == a2.toList) = true := beq_iff_eq.mpr c6
   have c6b1 : (a1.toList != a2.toList) = false := bne_eq_false_iff_eq.mpr c6
   clear c6
   obtain rfl := Option.some.inj H
   go_enter Tryd.func8, Tryd.ntmps8
   go_wp2_with (first | ((with_reducible refine zbp (N := 10) rfl ?_); refine Kd.R_lit Kd.string _ 9 ?hg (N := 10) ?hd (xs := ([a1, a2] : List ByteArray)) (inner := [.string a1, .string a2]) (ok := fun _ => True) (okp := fun _ => True) ?hr ?hp (fun _ hk => hk) trivial (Below.refl _ _) (Nat.le_refl _) s9 ?_; (case hd => rfl); (case hg => rfl); (case hr => first | (go_simp; done) | (go_simp; rfl)); (case hp => exact (Reps.one (show Kd.M Kd.string _ _ _ a1 [.string a1] from rfl) (Reps.one (show Kd.M Kd.string _ _ _ a2 [.string a2] from rfl) (Reps.none _ _)))); intro v106 w7 ho8 hb hg_ hnew_; clear hg_ hnew_; (first | rw [← Ny105.out] at ho8 | (simp only [Int.reduceToNat] at ho8; rw [← Ny105.out] at ho8)); have n0_ := zaa.mk (Kd.zbk ho8 (zaL (by repeat (first | (with_reducible first | exact HB.out | apply zad | apply zac | apply zae) | exact HB.out)))); have n1_ := zaa.mk (zaq (by repeat (first | (with_reducible first | exact HB.out | apply zad | apply zac | apply zae) | exact HB.out)) hb); clear HB; have HO107 := n0_; have HB := n1_; clear n0_ n1_; clear hb ho8; obtain ⟨Ao9, co9, eo9⟩ := Kd.zaZ HO107.out; subst eo9) | ((with_reducible refine zaO (f := 22) rfl ?_); refine zbj (some 11) rfl rfl Tryd.func22 k9 rfl #[.slice A0 l0.length c0, .slice Ao9 y105.length co9] rfl m9 ?_; (with_reducible refine (zaP.calls k _ _ l0 _ _ y105 true _ ?side1 ?side2 ?side3 ?side4 A4.out).mono ?_); (case side1 => repeat (first | exact (Kd.zaF HR0.out HB.out) | (with_reducible refine Kd.zaM ?_ _) | (with_reducible refine Kd.zaN ?_ _) | (with_reducible refine Kd.zaW ?_))); (case side2 => exact HC0.out); (case side3 => repeat (first | exact (Kd.zaw HO107.out).2.2 | (with_reducible refine Kd.zaM ?_ _) | (with_reducible refine Kd.zaN ?_ _) | (with_reducible refine Kd.zaW ?_))); (case side4 => exact (Kd.zaw HO107.out).2.1); rintro e w10 ⟨rfl, hb⟩; refine ⟨_, rfl, ?_⟩; have n0_ := zaa.mk (Kd.zaG (by (with_reducible repeat (first | apply Kd.zax | apply Kd.zay | apply Kd.zaC)); exact HO107.out) hb); have n1_ := zaa.mk (zaq (by repeat (first | (with_reducible first | exact HB.out | apply zad | apply zac | apply zae) | exact HB.out)) hb); clear HO107; clear HB; have HO107 := n0_; have HB := n1_; clear n0_ n1_; (try clear hb); (try clear hb2); (try clear hk); (try clear hi)))
   go_ret
   exact ⟨by first | rfl | (simp [zaS, zaT] <;> rfl) | (simp [*, zaS, zaT] <;> rfl), by repeat (first | (with_reducible first | exact HB.out | apply zad | apply zac | apply zae) | exact HB.out)⟩
  ·
   rw [if_neg c6] at H
   have c6b0 : (a1.toList == a2.toList) = false := beq_eq_false_iff_ne.mpr c6
   have c6b1 : (a1.toList != a2.toList) = true := bne_iff_ne.mpr c6
   replace H := Option.bind_eq_some_iff.mp H
   obtain ⟨t109, A110, H⟩ := H
   replace H : ((zaJ.f t109 a2).bind fun t112 => (some t112)) = some r := H
   have A11 := zaa.mk A110
   clear A110
   replace H := Option.bind_eq_some_iff.mp H
   obtain ⟨t112, A120, H⟩ := H
   replace H : (some t112) = some r := H
   have A12 := zaa.mk A120
   clear A120
   obtain rfl := Option.some.inj H
   go_enter Tryd.func8, Tryd.ntmps8
   go_wp2_with (first | ((with_reducible refine zbp (N := 10) rfl ?_); refine Kd.R_lit Kd.string _ 9 ?hg (N := 10) ?hd (xs := ([a1, a2] : List ByteArray)) (inner := [.string a1, .string a2]) (ok := fun _ => True) (okp := fun _ => True) ?hr ?hp (fun _ hk => hk) trivial (Below.refl _ _) (Nat.le_refl _) s9 ?_; (case hd => rfl); (case hg => rfl); (case hr => first | (go_simp; done) | (go_simp; rfl)); (case hp => exact (Reps.one (show Kd.M Kd.string _ _ _ a1 [.string a1] from rfl) (Reps.one (show Kd.M Kd.string _ _ _ a2 [.string a2] from rfl) (Reps.none _ _)))); intro v106 w13 ho14 hb hg_ hnew_; clear hg_ hnew_; (first | rw [← Ny105.out] at ho14 | (simp only [Int.reduceToNat] at ho14; rw [← Ny105.out] at ho14)); have n0_ := zaa.mk (Kd.zbk ho14 (zaL (by repeat (first | (with_reducible first | exact HB.out | apply zad | apply zac | apply zae) | exact HB.out)))); have n1_ := zaa.mk (zaq (by repeat (first | (with_reducible first | exact HB.out | apply zad | apply zac | apply zae) | exact HB.out)) hb); clear HB; have HO107 := n0_; have HB := n1_; clear n0_ n1_; clear hb ho14; obtain ⟨Ao15, co15, eo15⟩ := Kd.zaZ HO107.out; subst eo15) | ((with_reducible refine zaO (f := 22) rfl ?_); refine zbj (some 11) rfl rfl Tryd.func22 k9 rfl #[.slice A0 l0.length c0, .slice Ao15 y105.length co15] rfl m9 ?_; (with_reducible refine (zaP.calls k _ _ l0 _ _ y105 true _ ?side1 ?side2 ?side3 ?side4 A4.out).mono ?_); (case side1 => repeat (first | exact (Kd.zaF HR0.out HB.out) | (with_reducible refine Kd.zaM ?_ _) | (with_reducible refine Kd.zaN ?_ _) | (with_reducible refine Kd.zaW ?_))); (case side2 => exact HC0.out); (case side3 => repeat (first | exact (Kd.zaw HO107.out).2.2 | (with_reducible refine Kd.zaM ?_ _) | (with_reducible refine Kd.zaN ?_ _) | (with_reducible refine Kd.zaW ?_))); (case side4 => exact (Kd.zaw HO107.out).2.1); rintro e w16 ⟨rfl, hb⟩; refine ⟨_, rfl, ?_⟩; have n0_ := zaa.mk (Kd.zaG (by (with_reducible repeat (first | apply Kd.zax | apply Kd.zay | apply Kd.zaC)); exact HO107.out) hb); have n1_ := zaa.mk (zaq (by repeat (first | (with_reducible first | exact HB.out | apply zad | apply zac | apply zae) | exact HB.out)) hb); clear HO107; clear HB; have HO107 := n0_; have HB := n1_; clear n0_ n1_; (try clear hb); (try clear hb2); (try clear hk); (try clear hi)) | (go_at_call 24; (with_reducible refine (zbs.calls _ _ l0 a1 t109 _ ?side1 ?side2 A11.out).mono ?_); (case side1 => repeat (first | exact (Kd.zaF HR0.out HB.out) | (with_reducible refine Kd.zaM ?_ _) | (with_reducible refine Kd.zaN ?_ _) | (with_reducible refine Kd.zaW ?_))); (case side2 => exact HC0.out); rintro e w17 ⟨v110, rfl, ho0, hb⟩; have n0_ := zaa.mk (Kd.zcW (by (with_reducible repeat (first | apply Kd.zax | apply Kd.zay | apply Kd.zaC)); exact HO107.out) (Kd.zdy ho0) hb); have n1_ := zaa.mk (Kd.zbk (Kd.zeF ho0 (Kd.R_lt (by (with_reducible repeat (first | apply Kd.zax | apply Kd.zay | apply Kd.zaC)); exact HO107.out))) (zaL (by repeat (first | (with_reducible first | exact HB.out | apply zad | apply zac | apply zae) | exact HB.out)))); have n2_ := zaa.mk (zaq (by repeat (first | (with_reducible first | exact HB.out | apply zad | apply zac | apply zae) | exact HB.out)) hb); clear HO107; clear HB; have HO107 := n0_; have HO111 := n1_; have HB := n2_; clear n0_ n1_ n2_; (try clear hb); (try clear hb2); (try clear hk); (try clear hi); (try clear ho0); obtain ⟨Ao18, co18, eo18⟩ := Kd.zaZ HO111.out; subst eo18) | (go_at_call 23; (with_reducible refine (zaJ.calls _ _ t109 a2 t112 _ ?side1 ?side2 A12.out).mono ?_); (case side1 => repeat (first | exact (Kd.zaw HO111.out).2.2 | (with_reducible refine Kd.zaM ?_ _) | (with_reducible refine Kd.zaN ?_ _) | (with_reducible refine Kd.zaW ?_))); (case side2 => exact (Kd.zaw HO111.out).2.1); rintro e w' ⟨rfl, ⟨nd, rfl⟩⟩))
   go_ret
   exact ⟨by first | rfl | (simp [zaS, zaT] <;> rfl) | (simp [*, zaS, zaT] <;> rfl), by repeat (first | (with_reducible first | exact HB.out | apply zad | apply zac | apply zae) | exact HB.out)⟩
 ·
  replace c5 := Bool.eq_false_iff.mpr c5
  subst c5
  have H1 : (some false) = some r := by rw [if_neg (show ¬ (false = true) by decide)] at H; exact H
  clear H
  have H := H1
  clear H1
  obtain rfl := Option.some.inj H
  go_enter Tryd.func8, Tryd.ntmps8
  go_wp2_with (first | ((with_reducible refine zbp (N := 10) rfl ?_); refine Kd.R_lit Kd.string _ 9 ?hg (N := 10) ?hd (xs := ([a1, a2] : List ByteArray)) (inner := [.string a1, .string a2]) (ok := fun _ => True) (okp := fun _ => True) ?hr ?hp (fun _ hk => hk) trivial (Below.refl _ _) (Nat.le_refl _) s9 ?_; (case hd => rfl); (case hg => rfl); (case hr => first | (go_simp; done) | (go_simp; rfl)); (case hp => exact (Reps.one (show Kd.M Kd.string _ _ _ a1 [.string a1] from rfl) (Reps.one (show Kd.M Kd.string _ _ _ a2 [.string a2] from rfl) (Reps.none _ _)))); intro v106 w19 ho20 hb hg_ hnew_; clear hg_ hnew_; (first | rw [← Ny105.out] at ho20 | (simp only [Int.reduceToNat] at ho20; rw [← Ny105.out] at ho20)); have n0_ := zaa.mk (Kd.zbk ho20 (zaL (by repeat (first | (with_reducible first | exact HB.out | apply zad | apply zac | apply zae) | exact HB.out)))); have n1_ := zaa.mk (zaq (by repeat (first | (with_reducible first | exact HB.out | apply zad | apply zac | apply zae) | exact HB.out)) hb); clear HB; have HO107 := n0_; have HB := n1_; clear n0_ n1_; clear hb ho20; obtain ⟨Ao21, co21, eo21⟩ := Kd.zaZ HO107.out; subst eo21) | ((with_reducible refine zaO (f := 22) rfl ?_); refine zbj (some 11) rfl rfl Tryd.func22 k9 rfl #[.slice A0 l0.length c0, .slice Ao21 y105.length co21] rfl m9 ?_; (with_reducible refine (zaP.calls k _ _ l0 _ _ y105 false _ ?side1 ?side2 ?side3 ?side4 A4.out).mono ?_); (case side1 => repeat (first | exact (Kd.zaF HR0.out HB.out) | (with_reducible refine Kd.zaM ?_ _) | (with_reducible refine Kd.zaN ?_ _) | (with_reducible refine Kd.zaW ?_))); (case side2 => exact HC0.out); (case side3 => repeat (first | exact (Kd.zaw HO107.out).2.2 | (with_reducible refine Kd.zaM ?_ _) | (with_reducible refine Kd.zaN ?_ _) | (with_reducible refine Kd.zaW ?_))); (case side4 => exact (Kd.zaw HO107.out).2.1); rintro e w22 ⟨rfl, hb⟩; refine ⟨_, rfl, ?_⟩; have n0_ := zaa.mk (Kd.zaG (by (with_reducible repeat (first | apply Kd.zax | apply Kd.zay | apply Kd.zaC)); exact HO107.out) hb); have n1_ := zaa.mk (zaq (by repeat (first | (with_reducible first | exact HB.out | apply zad | apply zac | apply zae) | exact HB.out)) hb); clear HO107; clear HB; have HO107 := n0_; have HB := n1_; clear n0_ n1_; (try clear hb); (try clear hb2); (try clear hk); (try clear hi)))
  go_ret
  exact ⟨by first | rfl | (simp [zaS, zaT] <;> rfl) | (simp [*, zaS, zaT] <;> rfl), by repeat (first | (with_reducible first | exact HB.out | apply zad | apply zac | apply zae) | exact HB.out)⟩
open Go.Proofs.YtofoegknealilaaDoorTab in
def zbT.f (l0 : List (S44)) (a1 : ByteArray) : Option (Int × Bool) := if l0.length < 4398046511104 then some (at1 l0 a1, is1 l0 a1) else none
open Go.Proofs.YtofoegknealilaaDoorTab in
theorem zbT.calls (A0 : Option Addr) (c0 : Nat) (l0 : List (S44)) (a1 : ByteArray) (r1 : Int) (r2 : Bool) (w : World) (hr0 : Kd.C k44 w A0 l0.length l0) (hc0 : l0.length ≤ c0) (h : zbT.f l0 a1 = some (r1, r2)) :
  Calls Tryd.prog 25 #[.slice A0 l0.length c0, .string a1] w fun e w' => e = .returned (.tuple #[.int .i64 r1, .bool r2]) ∧ Below w.heap.size w w' := by
 unfold zbT.f at h
 by_cases hl : l0.length < 4398046511104
 ·
  rw [if_pos hl] at h
  cases h
  exact zb6 A0 c0 l0 a1 w hr0 hl
 ·
  rw [if_neg hl] at h; cases h
mutual
def zaj.j0 : Nat → List (S44) → ByteArray → List ByteArray → Bool → Option (List ByteArray)
 | 0, _, _, _, _ => none
 | k + 1, x0, x1, x4, x21 => if x21 = true then (some ([] : List ByteArray)) else (zaj.l0 k x0 x1 x4 x0 (x0.length : Int) 0)
def zaj.l0 : Nat → List (S44) → ByteArray → List ByteArray → List (S44) → Int → Int → Option (List ByteArray)
 | 0, _, _, _, _, _, _ => none
 | k + 1, x0, x1, x4, x22, x23, x24 => if x24 < x23 then (if 0 ≤ x24 then (if x24 < (x22.length : Int) then ((zan.f k x0 ((zai x22 x24).f0) x1).bind fun t122 => (if t122 = true then (if x4.length < 8796093022208 then (zaj.l0 k x0 x1 (x4 ++ [(zai x22 x24).f0]) x22 x23 (wrap64 (x24 + 1))) else (none)) else (zaj.l0 k x0 x1 x4 x22 x23 (wrap64 (x24 + 1))))) else (none)) else (none)) else (some x4)
end
def zaj.f (k : Nat) (l0 : List (S44)) (a1 : ByteArray) : Option (List ByteArray) := (zbT.f l0 a1).bind fun bt117 => (if bt117.2 = true then ((zaP.f k l0 ([] : List ByteArray)).bind fun t119 => (zaj.j0 k l0 a1 ([] : List ByteArray) (!t119))) else (zaj.j0 k l0 a1 ([] : List ByteArray) true))
theorem zaj.zbI : ∀ k, (∀ y0 y1 y2 y3, LeO (zaj.j0 k y0 y1 y2 y3) (zaj.j0 (k + 1) y0 y1 y2 y3)) ∧ (∀ y0 y1 y2 y3 y4 y5, LeO (zaj.l0 k y0 y1 y2 y3 y4 y5) (zaj.l0 (k + 1) y0 y1 y2 y3 y4 y5))
 | 0 => ⟨fun _ _ _ _ r h => by simp [zaj.j0] at h, fun _ _ _ _ _ _ r h => by simp [zaj.l0] at h⟩
 | k + 1 => by
  obtain ⟨ih0, ih1⟩ := zaj.zbI k
  refine ⟨?_, ?_⟩
  ·
   intro y0 y1 y2 y3
   unfold zaj.j0
   repeat' first
   | (with_reducible exact ih0 _ _ _ _)
   | (with_reducible exact ih1 _ _ _ _ _ _)
   | (with_reducible exact zan.mono _ _ _ _)
   | (with_reducible exact zaP.mono _ _ _)
   | (with_reducible exact LeO.refl _)
   | (with_reducible exact LeO.none _)
   | (with_reducible refine LeO.ite ?_ ?_)
   | (with_reducible refine LeO.bind ?_ (fun _ => ?_))
   | exact ih0 _ _ _ _
   | exact ih1 _ _ _ _ _ _
   | exact zan.mono _ _ _ _
   | exact zaP.mono _ _ _
   | exact LeO.none _
   | refine LeO.ite ?_ ?_
   | refine LeO.bind ?_ (fun _ => ?_)
  ·
   intro y0 y1 y2 y3 y4 y5
   unfold zaj.l0
   repeat' first
   | (with_reducible exact ih0 _ _ _ _)
   | (with_reducible exact ih1 _ _ _ _ _ _)
   | (with_reducible exact zan.mono _ _ _ _)
   | (with_reducible exact zaP.mono _ _ _)
   | (with_reducible exact LeO.refl _)
   | (with_reducible exact LeO.none _)
   | (with_reducible refine LeO.ite ?_ ?_)
   | (with_reducible refine LeO.bind ?_ (fun _ => ?_))
   | exact ih0 _ _ _ _
   | exact ih1 _ _ _ _ _ _
   | exact zan.mono _ _ _ _
   | exact zaP.mono _ _ _
   | exact LeO.none _
   | refine LeO.ite ?_ ?_
   | refine LeO.bind ?_ (fun _ => ?_)
theorem zaj.mono : ∀ a0 a1 k, LeO (zaj.f k a0 a1) (zaj.f (k + 1) a0 a1) := by
 intro a0 a1 k
 obtain ⟨ih0, ih1⟩ := zaj.zbI k
 unfold zaj.f
 repeat' first
   | (with_reducible exact ih0 _ _ _ _)
   | (with_reducible exact ih1 _ _ _ _ _ _)
   | (with_reducible exact zan.mono _ _ _ _)
   | (with_reducible exact zaP.mono _ _ _)
   | (with_reducible exact LeO.refl _)
   | (with_reducible exact LeO.none _)
   | (with_reducible refine LeO.ite ?_ ?_)
   | (with_reducible refine LeO.bind ?_ (fun _ => ?_))
   | exact ih0 _ _ _ _
   | exact ih1 _ _ _ _ _ _
   | exact zan.mono _ _ _ _
   | exact zaP.mono _ _ _
   | exact LeO.none _
   | refine LeO.ite ?_ ?_
   | refine LeO.bind ?_ (fun _ => ?_)
theorem zaj.calls (k : Nat) (A0 : Option Addr) (c0 : Nat) (l0 : List (S44)) (a1 : ByteArray) (r : List ByteArray) (w : World) (hr0 : Kd.C k44 w A0 l0.length l0) (hc0 : l0.length ≤ c0) (h : zaj.f k l0 a1 = some r) (hG : Go.Proofs.YtofoegknealilaaDoorTab.GW w := by exact Go.Proofs.YtofoegknealilaaDoorTab.GW.below hG (by repeat (first | (with_reducible first | exact HB.out | apply zad | apply zac | apply zae) | exact HB.out | refine zav ?_ (zaa.out (by assumption)) | exact Below.refl _ _))) :
  Calls Tryd.prog 12 #[.slice A0 l0.length c0, .string a1] w fun e w' => ∃ v0_ : Value, e = .returned (v0_) ∧ Kd.R Kd.string 9 w' w.heap.size (fun _ => True) v0_ r ∧ Below w.heap.size w w' := by
 have hu44 := Tryd.underlying44
 have HR0 := zaa.mk hr0
 have HC0 := zaa.mk hc0
 clear hr0 hc0
 have HB := zaa.mk (Below.refl w.heap.size w)
 have H : ((zbT.f l0 a1).bind fun bt117 => (if bt117.2 = true then ((zaP.f k l0 ([] : List ByteArray)).bind fun t119 => (zaj.j0 k l0 a1 ([] : List ByteArray) (!t119))) else (zaj.j0 k l0 a1 ([] : List ByteArray) true))) = some r := h
 clear h
 replace H := Option.bind_eq_some_iff.mp H
 obtain ⟨⟨t117, t118⟩, A30, H⟩ := H
 replace H : (if t118 = true then ((zaP.f k l0 ([] : List ByteArray)).bind fun t119 => (zaj.j0 k l0 a1 ([] : List ByteArray) (!t119))) else (zaj.j0 k l0 a1 ([] : List ByteArray) true)) = some r := H
 have A3 := zaa.mk A30
 clear A30
 have HC4 := zaa.mk H
 clear H
 go_enter Tryd.func12, Tryd.ntmps12
 go_upto_region 2 with (first | ((with_reducible refine zaO (f := 25) rfl ?_); refine zbj (some 12) rfl rfl Tryd.func25 k9 rfl #[.slice A0 l0.length c0, .string a1] rfl m9 ?_; (with_reducible refine (zbT.calls _ _ l0 a1 t117 t118 _ ?side1 ?side2 A3.out).mono ?_); (case side1 => repeat (first | exact HR0.out | (with_reducible refine Kd.zaM ?_ _) | (with_reducible refine Kd.zaN ?_ _) | (with_reducible refine Kd.zaW ?_))); (case side2 => exact HC0.out); rintro e w5 ⟨rfl, hb⟩; refine ⟨_, rfl, ?_⟩; have n0_ := zaa.mk (zaq (by repeat (first | (with_reducible first | exact HB.out | apply zad | apply zac | apply zae) | exact HB.out)) hb); clear HB; have HB := n0_; clear n0_; (try clear hb); (try clear hb2); (try clear hk); (try clear hi)))
 (try simp only [Act.put, List.setIfInBounds_toArray, List.set_cons_zero, List.set_cons_succ])
 go_cut [21] (fun v21 wc => ∃ (kq : Nat) (x21_3 : Bool), v21 = .bool x21_3 ∧ zaa (zaj.j0 kq l0 a1 ([] : List ByteArray) x21_3 = some r) ∧ zaa (kq ≤ k) ∧ zaa (Kd.R Kd.string 9 wc w.heap.size (fun _ => True) (.slice none 0 0) ([] : List ByteArray)) ∧ zaa (Below w.heap.size w wc))
 case first =>
  have H := HC4.out
  clear HC4
  by_cases c6 : t118 = true
  ·
   subst c6
   have H1 : ((zaP.f k l0 ([] : List ByteArray)).bind fun t119 => (zaj.j0 k l0 a1 ([] : List ByteArray) (!t119))) = some r := by rw [if_pos rfl] at H; exact H
   clear H
   have H := H1
   clear H1
   replace H := Option.bind_eq_some_iff.mp H
   obtain ⟨t119, A70, H⟩ := H
   replace H : (zaj.j0 k l0 a1 ([] : List ByteArray) (!t119)) = some r := H
   have A7 := zaa.mk A70
   clear A70
   have H' := zaa.mk H
   clear H
   go_wp2_with (first | (go_at_call 22; (refine (zaP.calls k _ _ l0 _ _ ([] : List ByteArray) t119 _ ?side1 ?side2 ?side3 ?side4 A7.out).mono ?_); (case side1 => repeat (first | exact (Kd.zaF HR0.out HB.out) | (with_reducible refine Kd.zaM ?_ _) | (with_reducible refine Kd.zaN ?_ _) | (with_reducible refine Kd.zaW ?_))); (case side2 => exact HC0.out); (case side3 => exact Kd.C_nil _ _); (case side4 => exact Nat.le_refl _); rintro e w8 ⟨rfl, hb⟩; have n0_ := zaa.mk (zaq (by repeat (first | (with_reducible first | exact HB.out | apply zad | apply zac | apply zae) | exact HB.out)) hb); clear HB; have HB := n0_; clear n0_; (try clear hb); (try clear hb2); (try clear hk); (try clear hi)))
   go_meet
   case rel => exact ⟨_, (!t119), (by first | rfl | (simp; done) | (simp [*]; done)), H', ⟨by first | omega | exact Nat.le_refl _⟩, ⟨by first | exact Kd.R_nil _ _ _ _ _ | exact Kd.N_nil _ _ _ _ _ | exact Kd.V_nil _ _ _ _ _ | exact Kd.Q_nil _ _ _ _ _ | exact Kd.S_nil _ _ _ _ _⟩, ⟨by repeat (first | (with_reducible first | exact HB.out | apply zad | apply zac | apply zae) | exact HB.out)⟩⟩
  ·
   replace c6 := Bool.eq_false_iff.mpr c6
   subst c6
   have H1 : (zaj.j0 k l0 a1 ([] : List ByteArray) true) = some r := by rw [if_neg (show ¬ (false = true) by decide)] at H; exact H
   clear H
   have H := H1
   clear H1
   have H' := zaa.mk H
   clear H
   go_wp2
   go_meet
   case rel => exact ⟨_, (true), (by first | rfl | (simp; done) | (simp [*]; done)), H', ⟨by first | omega | exact Nat.le_refl _⟩, ⟨by first | exact Kd.R_nil _ _ _ _ _ | exact Kd.N_nil _ _ _ _ _ | exact Kd.V_nil _ _ _ _ _ | exact Kd.Q_nil _ _ _ _ _ | exact Kd.S_nil _ _ _ _ _⟩, ⟨by repeat (first | (with_reducible first | exact HB.out | apply zad | apply zac | apply zae) | exact HB.out)⟩⟩
 case rest =>
  clear HC4
  try clear c1
  try clear c2
  try clear p2
  try clear c6
  obtain ⟨kq, x21_3, rfl, HA, HJ3, HO_4, HB⟩ := hcut
  cases kq with
  | zero => exact absurd HA.out (by simp [zaj.j0])
  | succ kj3 =>
   have H := HA.out
   clear HA
   simp only [zaj.j0] at H
   by_cases c9 : x21_3 = true
   ·
    subst c9
    have H1 : (some ([] : List ByteArray)) = some r := by rw [if_pos rfl] at H; exact H
    clear H
    have H := H1
    clear H1
    obtain rfl := Option.some.inj H
    go_wp2
    go_ret
    exact ⟨_, by first | rfl | (simp [zaS, zaT] <;> rfl) | (simp [*, zaS, zaT] <;> rfl), by first | exact Kd.R_nil _ _ _ _ _ | exact Kd.N_nil _ _ _ _ _ | exact Kd.V_nil _ _ _ _ _ | exact Kd.Q_nil _ _ _ _ _ | exact Kd.S_nil _ _ _ _ _, by repeat (first | (with_reducible first | exact HB.out | apply zad | apply zac | apply zae) | exact HB.out)⟩
   ·
    replace c9 := Bool.eq_false_iff.mpr c9
    subst c9
    have H1 : (zaj.l0 kj3 l0 a1 ([] : List ByteArray) l0 (l0.length : Int) 0) = some r := by rw [if_neg (show ¬ (false = true) by decide)] at H; exact H
    clear H
    have H := H1
    clear H1
    have H' := zaa.mk H
    clear H
    go_wp2
    go_loopg [4, 24] kj3 (fun kq v4 v24 w' => ∃ (x4_2 : List ByteArray) (x24_2 : Int), v24 = .int .i64 x24_2 ∧ zaa (zaj.l0 kq l0 a1 x4_2 l0 (l0.length : Int) x24_2 = some r) ∧ zaa (kq ≤ kj3) ∧ zaa (Kd.R Kd.string 9 w' w.heap.size (fun _ => True) v4 x4_2) ∧ zaa (Below w.heap.size w w'))
    case atStart => exact ⟨(([] : List ByteArray)), (0), (by first | rfl | (simp; done) | (simp [*]; done)), H', ⟨Nat.le_refl _⟩, ⟨by (with_reducible repeat (first | apply Kd.zax | apply Kd.zay | apply Kd.zaC)); exact HO_4.out⟩, ⟨by repeat (first | (with_reducible first | exact HB.out | apply zad | apply zac | apply zae) | exact HB.out)⟩⟩
    case round =>
     clear H'
     try clear c1
     try clear c2
     try clear p2
     try clear c6
     try clear c9
     try clear p2
     obtain ⟨x4_2, x24_2, rfl, HA, HK2, HO_4, HB⟩ := hrel
     cases gk with
     | zero => exact absurd HA.out (by simp [zaj.l0])
     | succ k2 =>
      have H := HA.out
      clear HA
      simp only [zaj.l0] at H
      by_cases c10 : x24_2 < (l0.length : Int)
      ·
       rw [if_pos c10] at H
       have c10b0 : decide (x24_2 < (l0.length : Int)) = true := decide_eq_true c10
       clear c10
       by_cases c11 : 0 ≤ x24_2
       ·
        rw [if_pos c11] at H
        have c11b0 : decide (0 ≤ x24_2) = true := decide_eq_true c11
        clear c11
        by_cases c12 : x24_2 < (l0.length : Int)
        ·
         rw [if_pos c12] at H
         have c12b0 : decide (x24_2 < (l0.length : Int)) = true := decide_eq_true c12
         clear c12
         replace H := Option.bind_eq_some_iff.mp H
         obtain ⟨t122, A130, H⟩ := H
         replace H : (if t122 = true then (if x4_2.length < 8796093022208 then (zaj.l0 k2 l0 a1 (x4_2 ++ [(zai l0 x24_2).f0]) l0 (l0.length : Int) (wrap64 (x24_2 + 1))) else (none)) else (zaj.l0 k2 l0 a1 x4_2 l0 (l0.length : Int) (wrap64 (x24_2 + 1)))) = some r := H
         have A13 := zaa.mk A130
         clear A130
         by_cases c14 : t122 = true
         ·
          subst c14
          have H1 : (if x4_2.length < 8796093022208 then (zaj.l0 k2 l0 a1 (x4_2 ++ [(zai l0 x24_2).f0]) l0 (l0.length : Int) (wrap64 (x24_2 + 1))) else (none)) = some r := by rw [if_pos rfl] at H; exact H
          clear H
          have H := H1
          clear H1
          by_cases c15 : x4_2.length < 8796093022208
          ·
           rw [if_pos c15] at H
           have LMc15 := zaa.mk c15
           clear c15
           obtain ⟨y123, hy123⟩ : ∃ y_ : List ByteArray, y_ = (x4_2 ++ [(zai l0 x24_2).f0]) := ⟨_, rfl⟩
           replace H : (zaj.l0 k2 l0 a1 y123 l0 (l0.length : Int) (wrap64 (x24_2 + 1))) = some r := by first | (rw [hy123]; with_reducible exact H) | (have H2_ := (Option.bind_some _ _).symm.trans H; rw [hy123]; with_reducible exact H2_) | (have H2_ := (Option.bind_some _ _).symm.trans H; with_reducible exact H2_) | with_reducible exact H | (rw [hy123]; exact H) | exact H
           have Ny123 := zaa.mk hy123
           clear hy123
           have H' := zaa.mk H
           clear H
           have p120 : 0 ≤ (x24_2 : Int) := of_decide_eq_true (by first | (with_reducible assumption) | assumption)
           have q120 : x24_2 < (l0.length : Int) := of_decide_eq_true (by first | (with_reducible assumption) | assumption)
           obtain ⟨ad120, A120_2, c120_2, A120_3, c120_3, e120, hx120_0, hx120_1, hx120_2, hx120_3, hl120_2, hi120_2, hl120_3, hi120_3⟩ := zbF HR0.out x24_2 p120 q120
           cases e120
           replace hx120_0 := (HB.out.cell (World.block_lt_of_cell? w _ hx120_0)).trans hx120_0
           replace hx120_1 := (HB.out.cell (World.block_lt_of_cell? w _ hx120_1)).trans hx120_1
           replace hx120_2 := (HB.out.cell (World.block_lt_of_cell? w _ hx120_2)).trans hx120_2
           replace hx120_3 := (HB.out.cell (World.block_lt_of_cell? w _ hx120_3)).trans hx120_3
           have HR120_2 := zaa.mk hi120_2
           have HC120_2 := zaa.mk hl120_2
           clear hi120_2 hl120_2
           have HR120_3 := zaa.mk hi120_3
           have HC120_3 := zaa.mk hl120_3
           clear hi120_3 hl120_3
           replace p120 := eq_true p120
           replace q120 := eq_true q120
           go_wp2_with (first | ((with_reducible refine zbp (N := 8) rfl ?_); refine zbO ?hg (N := 8) ?hd (cs := #[.string (⟨#[]⟩ : ByteArray), .string (⟨#[]⟩ : ByteArray), .slice none 0 0, .slice none 0 0]) (t := 44) ?hr ?_; (case hd => rfl); (case hg => rfl); (case hr => first | (go_simp; done) | (go_simp; rfl)); intro gb121 hg w16 hbox hb; have n0_ := zaa.mk (Kd.zaG (by (with_reducible repeat (first | apply Kd.zax | apply Kd.zay | apply Kd.zaC)); exact HO_4.out) hb); have n1_ := zaa.mk (zaq (by repeat (first | (with_reducible first | exact HB.out | apply zad | apply zac | apply zae) | exact HB.out)) hb); have n2_ := zaa.mk (hbox); have n3_ := zaa.mk ((by rw [hg]; exact (zaL (by repeat (first | (with_reducible first | exact HB.out | apply zad | apply zac | apply zae) | exact HB.out))) : w.heap.size ≤ gb121)); have n4_ := zaa.mk ((by rw [hg]; exact (zaL (by repeat (first | (with_reducible first | exact HB.out | apply zad | apply zac | apply zae) | exact HB.out))) : w.heap.size ≤ gb121)); clear HO_4; clear HB; have HO_4 := n0_; have HB := n1_; have BK121 := n2_; have GW121 := n3_; have GE121 := n4_; clear n0_ n1_ n2_ n3_ n4_; clear hb hbox hg; have hcz17_0 : w16.cell? ⟨gb121, 0, none⟩ = some (.string (⟨#[]⟩ : ByteArray)) := (zaB BK121.out 0).trans rfl; have hcz17_1 : w16.cell? ⟨gb121, 1, none⟩ = some (.string (⟨#[]⟩ : ByteArray)) := (zaB BK121.out 1).trans rfl; have hcz17_2 : w16.cell? ⟨gb121, 2, none⟩ = some (.slice none 0 0) := (zaB BK121.out 2).trans rfl; have hcz17_3 : w16.cell? ⟨gb121, 3, none⟩ = some (.slice none 0 0) := (zaB BK121.out 3).trans rfl; have hfz17_0 := zau BK121.out 0; have hfz17_1 := zau BK121.out 1; have hfz17_2 := zau BK121.out 2; have hfz17_3 := zau BK121.out 3) | ((with_reducible refine zaO (f := 8) rfl ?_); refine zbj (some 32) rfl rfl Tryd.func8 k9 rfl #[.slice (some ad120) l0.length c0, .string ((zai l0 x24_2).f0), .string a1] rfl m9 ?_; (with_reducible refine (zan.calls k2 _ _ l0 ((zai l0 x24_2).f0) a1 true _ ?side1 ?side2 A13.out).mono ?_); (case side1 => exact Kd.zaF HR0.out (by repeat (first | (with_reducible first | exact HB.out | apply zad | apply zac | apply zae | refine zav ?_ GE121.out) | exact HB.out))); (case side2 => exact HC0.out); rintro e w18 ⟨rfl, hb⟩; refine ⟨_, rfl, ?_⟩; have n0_ := zaa.mk (Kd.zaG (by (with_reducible repeat (first | apply Kd.zax | apply Kd.zay | apply Kd.zaC)); exact (Kd.za2 (Kd.R_far (p := ⟨gb121, 3, none⟩) (Kd.R_far (p := ⟨gb121, 2, none⟩) (Kd.R_far (p := ⟨gb121, 1, none⟩) (Kd.R_far (p := ⟨gb121, 0, none⟩) (Kd.zcz HO_4.out BK121.out d9) (fun _ hk => hk.2) (.string ((zai l0 x24_2).f0))) (fun _ hk => hk.2) (.string ((zai l0 x24_2).f1))) (fun _ hk => hk.2) (.slice A120_2 ((zai l0 x24_2).f2).length c120_2)) (fun _ hk => hk.2) (.slice A120_3 ((zai l0 x24_2).f3).length c120_3)) (fun _ h_ => h_.1))) hb); have n1_ := zaa.mk (zci (g := gb121) (o := .cells #[.string ((zai l0 x24_2).f0), .string ((zai l0 x24_2).f1), .slice A120_2 ((zai l0 x24_2).f2).length c120_2, .slice A120_3 ((zai l0 x24_2).f3).length c120_3] 44 (0, 0)) (by (with_reducible repeat (first | refine zaD ?_ _ | refine zaI ?_ | refine zaE ?_ _)); refine zaK (cs := #[.string ((zai l0 x24_2).f0), .string ((zai l0 x24_2).f1), .slice A120_2 ((zai l0 x24_2).f2).length c120_2, .slice none 0 0]) ?_ 3 _ rfl; (with_reducible repeat (first | refine zaD ?_ _ | refine zaI ?_ | refine zaE ?_ _)); refine zaK (cs := #[.string ((zai l0 x24_2).f0), .string ((zai l0 x24_2).f1), .slice none 0 0, .slice none 0 0]) ?_ 2 _ rfl; (with_reducible repeat (first | refine zaD ?_ _ | refine zaI ?_ | refine zaE ?_ _)); refine zaK (cs := #[.string ((zai l0 x24_2).f0), .string (⟨#[]⟩ : ByteArray), .slice none 0 0, .slice none 0 0]) ?_ 1 _ rfl; (with_reducible repeat (first | refine zaD ?_ _ | refine zaI ?_ | refine zaE ?_ _)); refine zaK (cs := #[.string (⟨#[]⟩ : ByteArray), .string (⟨#[]⟩ : ByteArray), .slice none 0 0, .slice none 0 0]) ?_ 0 _ rfl; (with_reducible repeat (first | refine zaD ?_ _ | refine zaI ?_ | refine zaE ?_ _)); exact BK121.out) hb); have n2_ := zaa.mk (zaq (by repeat (first | (with_reducible first | exact HB.out | apply zad | apply zac | apply zae | refine zav ?_ GE121.out) | exact HB.out)) hb); clear HO_4; clear BK121; clear HB; have HO_4 := n0_; have BK121 := n1_; have HB := n2_; clear n0_ n1_ n2_; (try clear hb); (try clear hb2); (try clear hk); (try clear hi); have hcz19_0 : w18.cell? ⟨gb121, 0, none⟩ = some (.string ((zai l0 x24_2).f0)) := (zaB BK121.out 0).trans rfl; have hcz19_1 : w18.cell? ⟨gb121, 1, none⟩ = some (.string ((zai l0 x24_2).f1)) := (zaB BK121.out 1).trans rfl; have hcz19_2 : w18.cell? ⟨gb121, 2, none⟩ = some (.slice A120_2 ((zai l0 x24_2).f2).length c120_2) := (zaB BK121.out 2).trans rfl; have hcz19_3 : w18.cell? ⟨gb121, 3, none⟩ = some (.slice A120_3 ((zai l0 x24_2).f3).length c120_3) := (zaB BK121.out 3).trans rfl; have hfz19_0 := zau BK121.out 0; have hfz19_1 := zau BK121.out 1; have hfz19_2 := zau BK121.out 2; have hfz19_3 := zau BK121.out 3) | ((with_reducible refine zb7 (b := .append) (xs := #[.tmp 33, .tmp 36]) rfl ?_); at_builtin; refine Kd.zdg Kd.string (w0 := w) w.heap.size rfl (.tmp 33) (.tmp 36) 28 9 (.string ⟨#[]⟩) 16 rfl Tryd.underlying28 info9 rfl d9 o9 u4 x4_2 ((zai l0 x24_2).f0) [.string ((zai l0 x24_2).f0)] (fun _ => True) (fun _ => False) rfl rfl ?aP (fun _ hk => hk.elim) ?aF ?aO ?aB ?aS ?aL ?_; (case aP => exact rfl); (case aB => exact (by repeat (first | (with_reducible first | exact HB.out | apply zad | apply zac | apply zae | refine zav ?_ GE121.out) | exact HB.out))); (case aF => exact (fun _ _ => trivial)); (case aO => exact (by (with_reducible repeat (first | apply Kd.zax | apply Kd.zay | apply Kd.zaC)); exact HO_4.out)); (case aS => exact (zaL (by repeat (first | (with_reducible first | exact HB.out | apply zad | apply zac | apply zae | refine zav ?_ GE121.out) | exact HB.out)))); (case aL => have := LMc15.out; omega); intro v124 w20 ho hb hg hat; rw [← Ny123.out] at ho; have n0_ := zaa.mk (zdT (g := gb121) (o := .cells #[.string ((zai l0 x24_2).f0), .string ((zai l0 x24_2).f1), .slice A120_2 ((zai l0 x24_2).f2).length c120_2, .slice A120_3 ((zai l0 x24_2).f3).length c120_3] 44 (0, 0)) (by (with_reducible repeat (first | refine zaD ?_ _ | refine zaI ?_ | refine zaE ?_ _)); exact BK121.out) hg (Kd.R_ne HO_4.out BK121.out d9)); have n1_ := zaa.mk (hb); have n2_ := zaa.mk (ho); clear BK121; clear HB; clear HO_4; have BK121 := n0_; have HB := n1_; have HO125 := n2_; clear n0_ n1_ n2_; clear ho hb hg hat))
           go_roundg k2
           case measure => have := HJ3.out; have := HK2.out; omega
           case rel => exact ⟨(y123), (wrap64 (x24_2 + 1)), (by first | rfl | (simp; done) | (simp [*]; done)), H', ⟨by have := HJ3.out; have := HK2.out; omega⟩, ⟨by (with_reducible repeat (first | apply Kd.zax | apply Kd.zay | apply Kd.zaC)); exact HO125.out⟩, ⟨by repeat (first | (with_reducible first | exact HB.out | apply zad | apply zac | apply zae | refine zav ?_ GE121.out) | exact HB.out)⟩⟩
          ·
           rw [if_neg c15] at H
           exact absurd H s9
         ·
          replace c14 := Bool.eq_false_iff.mpr c14
          subst c14
          have H1 : (zaj.l0 k2 l0 a1 x4_2 l0 (l0.length : Int) (wrap64 (x24_2 + 1))) = some r := by rw [if_neg (show ¬ (false = true) by decide)] at H; exact H
          clear H
          have H := H1
          clear H1
          have H' := zaa.mk H
          clear H
          have p120 : 0 ≤ (x24_2 : Int) := of_decide_eq_true (by first | (with_reducible assumption) | assumption)
          have q120 : x24_2 < (l0.length : Int) := of_decide_eq_true (by first | (with_reducible assumption) | assumption)
          obtain ⟨ad120, A120_2, c120_2, A120_3, c120_3, e120, hx120_0, hx120_1, hx120_2, hx120_3, hl120_2, hi120_2, hl120_3, hi120_3⟩ := zbF HR0.out x24_2 p120 q120
          cases e120
          replace hx120_0 := (HB.out.cell (World.block_lt_of_cell? w _ hx120_0)).trans hx120_0
          replace hx120_1 := (HB.out.cell (World.block_lt_of_cell? w _ hx120_1)).trans hx120_1
          replace hx120_2 := (HB.out.cell (World.block_lt_of_cell? w _ hx120_2)).trans hx120_2
          replace hx120_3 := (HB.out.cell (World.block_lt_of_cell? w _ hx120_3)).trans hx120_3
          have HR120_2 := zaa.mk hi120_2
          have HC120_2 := zaa.mk hl120_2
          clear hi120_2 hl120_2
          have HR120_3 := zaa.mk hi120_3
          have HC120_3 := zaa.mk hl120_3
          clear hi120_3 hl120_3
          replace p120 := eq_true p120
          replace q120 := eq_true q120
          go_wp2_with (first | ((with_reducible refine zbp (N := 8) rfl ?_); refine zbO ?hg (N := 8) ?hd (cs := #[.string (⟨#[]⟩ : ByteArray), .string (⟨#[]⟩ : ByteArray), .slice none 0 0, .slice none 0 0]) (t := 44) ?hr ?_; (case hd => rfl); (case hg => rfl); (case hr => first | (go_simp; done) | (go_simp; rfl)); intro gb121 hg w21 hbox hb; have n0_ := zaa.mk (Kd.zaG (by (with_reducible repeat (first | apply Kd.zax | apply Kd.zay | apply Kd.zaC)); exact HO_4.out) hb); have n1_ := zaa.mk (zaq (by repeat (first | (with_reducible first | exact HB.out | apply zad | apply zac | apply zae) | exact HB.out)) hb); have n2_ := zaa.mk (hbox); have n3_ := zaa.mk ((by rw [hg]; exact (zaL (by repeat (first | (with_reducible first | exact HB.out | apply zad | apply zac | apply zae) | exact HB.out))) : w.heap.size ≤ gb121)); have n4_ := zaa.mk ((by rw [hg]; exact (zaL (by repeat (first | (with_reducible first | exact HB.out | apply zad | apply zac | apply zae) | exact HB.out))) : w.heap.size ≤ gb121)); clear HO_4; clear HB; have HO_4 := n0_; have HB := n1_; have BK121 := n2_; have GW121 := n3_; have GE121 := n4_; clear n0_ n1_ n2_ n3_ n4_; clear hb hbox hg; have hcz22_0 : w21.cell? ⟨gb121, 0, none⟩ = some (.string (⟨#[]⟩ : ByteArray)) := (zaB BK121.out 0).trans rfl; have hcz22_1 : w21.cell? ⟨gb121, 1, none⟩ = some (.string (⟨#[]⟩ : ByteArray)) := (zaB BK121.out 1).trans rfl; have hcz22_2 : w21.cell? ⟨gb121, 2, none⟩ = some (.slice none 0 0) := (zaB BK121.out 2).trans rfl; have hcz22_3 : w21.cell? ⟨gb121, 3, none⟩ = some (.slice none 0 0) := (zaB BK121.out 3).trans rfl; have hfz22_0 := zau BK121.out 0; have hfz22_1 := zau BK121.out 1; have hfz22_2 := zau BK121.out 2; have hfz22_3 := zau BK121.out 3) | ((with_reducible refine zaO (f := 8) rfl ?_); refine zbj (some 32) rfl rfl Tryd.func8 k9 rfl #[.slice (some ad120) l0.length c0, .string ((zai l0 x24_2).f0), .string a1] rfl m9 ?_; (with_reducible refine (zan.calls k2 _ _ l0 ((zai l0 x24_2).f0) a1 false _ ?side1 ?side2 A13.out).mono ?_); (case side1 => exact Kd.zaF HR0.out (by repeat (first | (with_reducible first | exact HB.out | apply zad | apply zac | apply zae | refine zav ?_ GE121.out) | exact HB.out))); (case side2 => exact HC0.out); rintro e w23 ⟨rfl, hb⟩; refine ⟨_, rfl, ?_⟩; have n0_ := zaa.mk (Kd.zaG (by (with_reducible repeat (first | apply Kd.zax | apply Kd.zay | apply Kd.zaC)); exact (Kd.za2 (Kd.R_far (p := ⟨gb121, 3, none⟩) (Kd.R_far (p := ⟨gb121, 2, none⟩) (Kd.R_far (p := ⟨gb121, 1, none⟩) (Kd.R_far (p := ⟨gb121, 0, none⟩) (Kd.zcz HO_4.out BK121.out d9) (fun _ hk => hk.2) (.string ((zai l0 x24_2).f0))) (fun _ hk => hk.2) (.string ((zai l0 x24_2).f1))) (fun _ hk => hk.2) (.slice A120_2 ((zai l0 x24_2).f2).length c120_2)) (fun _ hk => hk.2) (.slice A120_3 ((zai l0 x24_2).f3).length c120_3)) (fun _ h_ => h_.1))) hb); have n1_ := zaa.mk (zci (g := gb121) (o := .cells #[.string ((zai l0 x24_2).f0), .string ((zai l0 x24_2).f1), .slice A120_2 ((zai l0 x24_2).f2).length c120_2, .slice A120_3 ((zai l0 x24_2).f3).length c120_3] 44 (0, 0)) (by (with_reducible repeat (first | refine zaD ?_ _ | refine zaI ?_ | refine zaE ?_ _)); refine zaK (cs := #[.string ((zai l0 x24_2).f0), .string ((zai l0 x24_2).f1), .slice A120_2 ((zai l0 x24_2).f2).length c120_2, .slice none 0 0]) ?_ 3 _ rfl; (with_reducible repeat (first | refine zaD ?_ _ | refine zaI ?_ | refine zaE ?_ _)); refine zaK (cs := #[.string ((zai l0 x24_2).f0), .string ((zai l0 x24_2).f1), .slice none 0 0, .slice none 0 0]) ?_ 2 _ rfl; (with_reducible repeat (first | refine zaD ?_ _ | refine zaI ?_ | refine zaE ?_ _)); refine zaK (cs := #[.string ((zai l0 x24_2).f0), .string (⟨#[]⟩ : ByteArray), .slice none 0 0, .slice none 0 0]) ?_ 1 _ rfl; (with_reducible repeat (first | refine zaD ?_ _ | refine zaI ?_ | refine zaE ?_ _)); refine zaK (cs := #[.string (⟨#[]⟩ : ByteArray), .string (⟨#[]⟩ : ByteArray), .slice none 0 0, .slice none 0 0]) ?_ 0 _ rfl; (with_reducible repeat (first | refine zaD ?_ _ | refine zaI ?_ | refine zaE ?_ _)); exact BK121.out) hb); have n2_ := zaa.mk (zaq (by repeat (first | (with_reducible first | exact HB.out | apply zad | apply zac | apply zae | refine zav ?_ GE121.out) | exact HB.out)) hb); clear HO_4; clear BK121; clear HB; have HO_4 := n0_; have BK121 := n1_; have HB := n2_; clear n0_ n1_ n2_; (try clear hb); (try clear hb2); (try clear hk); (try clear hi)))
          go_roundg k2
          case measure => have := HJ3.out; have := HK2.out; omega
          case rel => exact ⟨(x4_2), (wrap64 (x24_2 + 1)), (by first | rfl | (simp; done) | (simp [*]; done)), H', ⟨by have := HJ3.out; have := HK2.out; omega⟩, ⟨by (with_reducible repeat (first | apply Kd.zax | apply Kd.zay | apply Kd.zaC)); exact HO_4.out⟩, ⟨by repeat (first | (with_reducible first | exact HB.out | apply zad | apply zac | apply zae | refine zav ?_ GE121.out) | exact HB.out)⟩⟩
        ·
         rw [if_neg c12] at H
         exact absurd H s9
       ·
        rw [if_neg c11] at H
        exact absurd H s9
      ·
       rw [if_neg c10] at H
       have c10b0 : decide (x24_2 < (l0.length : Int)) = false := decide_eq_false c10
       clear c10
       obtain rfl := Option.some.inj H
       go_wp2
       go_ret
       exact ⟨_, by first | rfl | (simp [zaS, zaT] <;> rfl) | (simp [*, zaS, zaT] <;> rfl), by (with_reducible repeat (first | apply Kd.zax | apply Kd.zay | apply Kd.zaC)); exact HO_4.out, by repeat (first | (with_reducible first | exact HB.out | apply zad | apply zac | apply zae) | exact HB.out)⟩
def zat.f (k : Nat) (l0 : List (S44)) (a1 : ByteArray) : Option (Bool) := (zaj.f k l0 a1).bind fun t126 => (some ((t126.length : Int) == 1))
theorem zat.mono : ∀ a0 a1 k, LeO (zat.f k a0 a1) (zat.f (k + 1) a0 a1) := by
 intro a0 a1 k
 unfold zat.f
 repeat' first
   | (with_reducible exact zaj.mono _ _ _)
   | (with_reducible exact LeO.refl _)
   | (with_reducible exact LeO.none _)
   | (with_reducible refine LeO.ite ?_ ?_)
   | (with_reducible refine LeO.bind ?_ (fun _ => ?_))
   | exact zaj.mono _ _ _
   | exact LeO.none _
   | refine LeO.ite ?_ ?_
   | refine LeO.bind ?_ (fun _ => ?_)
theorem zat.calls (k : Nat) (A0 : Option Addr) (c0 : Nat) (l0 : List (S44)) (a1 : ByteArray) (r : Bool) (w : World) (hr0 : Kd.C k44 w A0 l0.length l0) (hc0 : l0.length ≤ c0) (h : zat.f k l0 a1 = some r) (hG : Go.Proofs.YtofoegknealilaaDoorTab.GW w := by exact Go.Proofs.YtofoegknealilaaDoorTab.GW.below hG (by repeat (first | (with_reducible first | exact HB.out | apply zad | apply zac | apply zae) | exact HB.out | refine zav ?_ (zaa.out (by assumption)) | exact Below.refl _ _))) :
  Calls Tryd.prog 13 #[.slice A0 l0.length c0, .string a1] w fun e w' => e = .returned (.bool r) ∧ Below w.heap.size w w' := by
 have HR0 := zaa.mk hr0
 have HC0 := zaa.mk hc0
 clear hr0 hc0
 have HB := zaa.mk (Below.refl w.heap.size w)
 have H : ((zaj.f k l0 a1).bind fun t126 => (some ((t126.length : Int) == 1))) = some r := h
 clear h
 replace H := Option.bind_eq_some_iff.mp H
 obtain ⟨t126, A30, H⟩ := H
 replace H : (some ((t126.length : Int) == 1)) = some r := H
 have A3 := zaa.mk A30
 clear A30
 obtain rfl := Option.some.inj H
 go_enter Tryd.func13, Tryd.ntmps13
 go_wp2_with (first | ((with_reducible refine zaO (f := 12) rfl ?_); refine zbj (some 7) rfl rfl Tryd.func12 k9 rfl #[.slice A0 l0.length c0, .string a1] rfl m9 ?_; (with_reducible refine (zaj.calls k _ _ l0 a1 t126 _ ?side1 ?side2 A3.out).mono ?_); (case side1 => repeat (first | exact HR0.out | (with_reducible refine Kd.zaM ?_ _) | (with_reducible refine Kd.zaN ?_ _) | (with_reducible refine Kd.zaW ?_))); (case side2 => exact HC0.out); rintro e w4 ⟨v127, rfl, ho0, hb⟩; refine ⟨_, rfl, ?_⟩; have n0_ := zaa.mk (Kd.zbk ho0 (zaL (by repeat (first | (with_reducible first | exact HB.out | apply zad | apply zac | apply zae) | exact HB.out)))); have n1_ := zaa.mk (zaq (by repeat (first | (with_reducible first | exact HB.out | apply zad | apply zac | apply zae) | exact HB.out)) hb); clear HB; have HO128 := n0_; have HB := n1_; clear n0_ n1_; (try clear hb); (try clear hb2); (try clear hk); (try clear hi); (try clear ho0); obtain ⟨Ao5, co5, eo5⟩ := Kd.zaZ HO128.out; subst eo5))
 go_ret
 exact ⟨by first | rfl | (simp [zaS, zaT] <;> rfl) | (simp [*, zaS, zaT] <;> rfl), by repeat (first | (with_reducible first | exact HB.out | apply zad | apply zac | apply zae) | exact HB.out)⟩
def zba.f  : Option ((List (S44))) := some (([(⟨(⟨#[65]⟩ : ByteArray), (⟨#[]⟩ : ByteArray), ([] : List (S74)), ([] : List (S57))⟩ : S44), (⟨(⟨#[66]⟩ : ByteArray), (⟨#[65]⟩ : ByteArray), ([] : List (S74)), ([] : List (S57))⟩ : S44), (⟨(⟨#[67]⟩ : ByteArray), (⟨#[65]⟩ : ByteArray), ([] : List (S74)), ([] : List (S57))⟩ : S44), (⟨(⟨#[68]⟩ : ByteArray), (⟨#[66]⟩ : ByteArray), ([] : List (S74)), ([] : List (S57))⟩ : S44), (⟨(⟨#[88]⟩ : ByteArray), (⟨#[]⟩ : ByteArray), ([] : List (S74)), ([] : List (S57))⟩ : S44)] : List (S44)))
theorem zba.calls  (r : List (S44)) (w : World) (h : zba.f  = some r) :
  Calls Tryd.prog 7 #[] w fun e w' => ∃ v0_ : Value, e = .returned (v0_) ∧ Kd.R k44 44 w' w.heap.size (fun _ => True) v0_ r ∧ Below w.heap.size w w' := by
 have hu44 := Tryd.underlying44
 have HB := zaa.mk (Below.refl w.heap.size w)
 have H : (some (([(⟨(⟨#[65]⟩ : ByteArray), (⟨#[]⟩ : ByteArray), ([] : List (S74)), ([] : List (S57))⟩ : S44), (⟨(⟨#[66]⟩ : ByteArray), (⟨#[65]⟩ : ByteArray), ([] : List (S74)), ([] : List (S57))⟩ : S44), (⟨(⟨#[67]⟩ : ByteArray), (⟨#[65]⟩ : ByteArray), ([] : List (S74)), ([] : List (S57))⟩ : S44), (⟨(⟨#[68]⟩ : ByteArray), (⟨#[66]⟩ : ByteArray), ([] : List (S74)), ([] : List (S57))⟩ : S44), (⟨(⟨#[88]⟩ : ByteArray), (⟨#[]⟩ : ByteArray), ([] : List (S74)), ([] : List (S57))⟩ : S44)] : List (S44)))) = some r := h
 clear h
 obtain ⟨y101, hy101⟩ : ∃ y_ : List (S44), y_ = (([(⟨(⟨#[65]⟩ : ByteArray), (⟨#[]⟩ : ByteArray), ([] : List (S74)), ([] : List (S57))⟩ : S44), (⟨(⟨#[66]⟩ : ByteArray), (⟨#[65]⟩ : ByteArray), ([] : List (S74)), ([] : List (S57))⟩ : S44), (⟨(⟨#[67]⟩ : ByteArray), (⟨#[65]⟩ : ByteArray), ([] : List (S74)), ([] : List (S57))⟩ : S44), (⟨(⟨#[68]⟩ : ByteArray), (⟨#[66]⟩ : ByteArray), ([] : List (S74)), ([] : List (S57))⟩ : S44), (⟨(⟨#[88]⟩ : ByteArray), (⟨#[]⟩ : ByteArray), ([] : List (S74)), ([] : List (S57))⟩ : S44)] : List (S44))) := ⟨_, rfl⟩
 replace H : (some y101) = some r := by first | (rw [hy101]; with_reducible exact H) | (have H2_ := (Option.bind_some _ _).symm.trans H; rw [hy101]; with_reducible exact H2_) | (have H2_ := (Option.bind_some _ _).symm.trans H; with_reducible exact H2_) | with_reducible exact H | (rw [hy101]; exact H) | exact H
 have Ny101 := zaa.mk hy101
 clear hy101
 obtain rfl := Option.some.inj H
 go_enter Tryd.func7, Tryd.ntmps7
 go_wp2_with (first | ((with_reducible refine zbp (N := 6) rfl ?_); refine Kd.R_lit k44 _ 44 ?hg (N := 6) ?hd (xs := ([(⟨(⟨#[65]⟩ : ByteArray), (⟨#[]⟩ : ByteArray), ([] : List (S74)), ([] : List (S57))⟩ : S44), (⟨(⟨#[66]⟩ : ByteArray), (⟨#[65]⟩ : ByteArray), ([] : List (S74)), ([] : List (S57))⟩ : S44), (⟨(⟨#[67]⟩ : ByteArray), (⟨#[65]⟩ : ByteArray), ([] : List (S74)), ([] : List (S57))⟩ : S44), (⟨(⟨#[68]⟩ : ByteArray), (⟨#[66]⟩ : ByteArray), ([] : List (S74)), ([] : List (S57))⟩ : S44), (⟨(⟨#[88]⟩ : ByteArray), (⟨#[]⟩ : ByteArray), ([] : List (S74)), ([] : List (S57))⟩ : S44)] : List (S44))) (inner := [.string (⟨#[65]⟩ : ByteArray), .string (⟨#[]⟩ : ByteArray), .slice none 0 0, .slice none 0 0, .string (⟨#[66]⟩ : ByteArray), .string (⟨#[65]⟩ : ByteArray), .slice none 0 0, .slice none 0 0, .string (⟨#[67]⟩ : ByteArray), .string (⟨#[65]⟩ : ByteArray), .slice none 0 0, .slice none 0 0, .string (⟨#[68]⟩ : ByteArray), .string (⟨#[66]⟩ : ByteArray), .slice none 0 0, .slice none 0 0, .string (⟨#[88]⟩ : ByteArray), .string (⟨#[]⟩ : ByteArray), .slice none 0 0, .slice none 0 0]) (ok := fun _ => True) (okp := fun _ => True) ?hr ?hp (fun _ hk => hk) trivial (Below.refl _ _) (Nat.le_refl _) s9 ?_; (case hd => rfl); (case hg => rfl); (case hr => first | (go_simp; done) | (go_simp; rfl)); (case hp => exact (Reps.c4 (show Kd.M k44 _ _ _ (⟨(⟨#[65]⟩ : ByteArray), (⟨#[]⟩ : ByteArray), ([] : List (S74)), ([] : List (S57))⟩ : S44) [.string (⟨#[65]⟩ : ByteArray), .string (⟨#[]⟩ : ByteArray), .slice none 0 0, .slice none 0 0] from (zdZ _ _ _ (⟨(⟨#[65]⟩ : ByteArray), (⟨#[]⟩ : ByteArray), ([] : List (S74)), ([] : List (S57))⟩ : S44) (Kd.R_nil _ _ _ _ _) (Kd.R_nil _ _ _ _ _))) (Reps.c4 (show Kd.M k44 _ _ _ (⟨(⟨#[66]⟩ : ByteArray), (⟨#[65]⟩ : ByteArray), ([] : List (S74)), ([] : List (S57))⟩ : S44) [.string (⟨#[66]⟩ : ByteArray), .string (⟨#[65]⟩ : ByteArray), .slice none 0 0, .slice none 0 0] from (zdZ _ _ _ (⟨(⟨#[66]⟩ : ByteArray), (⟨#[65]⟩ : ByteArray), ([] : List (S74)), ([] : List (S57))⟩ : S44) (Kd.R_nil _ _ _ _ _) (Kd.R_nil _ _ _ _ _))) (Reps.c4 (show Kd.M k44 _ _ _ (⟨(⟨#[67]⟩ : ByteArray), (⟨#[65]⟩ : ByteArray), ([] : List (S74)), ([] : List (S57))⟩ : S44) [.string (⟨#[67]⟩ : ByteArray), .string (⟨#[65]⟩ : ByteArray), .slice none 0 0, .slice none 0 0] from (zdZ _ _ _ (⟨(⟨#[67]⟩ : ByteArray), (⟨#[65]⟩ : ByteArray), ([] : List (S74)), ([] : List (S57))⟩ : S44) (Kd.R_nil _ _ _ _ _) (Kd.R_nil _ _ _ _ _))) (Reps.c4 (show Kd.M k44 _ _ _ (⟨(⟨#[68]⟩ : ByteArray), (⟨#[66]⟩ : ByteArray), ([] : List (S74)), ([] : List (S57))⟩ : S44) [.string (⟨#[68]⟩ : ByteArray), .string (⟨#[66]⟩ : ByteArray), .slice none 0 0, .slice none 0 0] from (zdZ _ _ _ (⟨(⟨#[68]⟩ : ByteArray), (⟨#[66]⟩ : ByteArray), ([] : List (S74)), ([] : List (S57))⟩ : S44) (Kd.R_nil _ _ _ _ _) (Kd.R_nil _ _ _ _ _))) (Reps.c4 (show Kd.M k44 _ _ _ (⟨(⟨#[88]⟩ : ByteArray), (⟨#[]⟩ : ByteArray), ([] : List (S74)), ([] : List (S57))⟩ : S44) [.string (⟨#[88]⟩ : ByteArray), .string (⟨#[]⟩ : ByteArray), .slice none 0 0, .slice none 0 0] from (zdZ _ _ _ (⟨(⟨#[88]⟩ : ByteArray), (⟨#[]⟩ : ByteArray), ([] : List (S74)), ([] : List (S57))⟩ : S44) (Kd.R_nil _ _ _ _ _) (Kd.R_nil _ _ _ _ _))) (Reps.none _ _))))))); intro v102 w1 ho2 hb hg_ hnew_; clear hg_ hnew_; (first | rw [← Ny101.out] at ho2 | (simp only [Int.reduceToNat] at ho2; rw [← Ny101.out] at ho2)); have n0_ := zaa.mk (Kd.zbk ho2 (zaL (by repeat (first | (with_reducible first | exact HB.out | apply zad | apply zac | apply zae) | exact HB.out)))); have n1_ := zaa.mk (zaq (by repeat (first | (with_reducible first | exact HB.out | apply zad | apply zac | apply zae) | exact HB.out)) hb); clear HB; have HO103 := n0_; have HB := n1_; clear n0_ n1_; clear hb ho2))
 go_ret
 exact ⟨_, by first | rfl | (simp [zaS, zaT] <;> rfl) | (simp [*, zaS, zaT] <;> rfl), by (with_reducible repeat (first | apply Kd.zax | apply Kd.zay | apply Kd.zaC)); exact HO103.out, by repeat (first | (with_reducible first | exact HB.out | apply zad | apply zac | apply zae) | exact HB.out)⟩
open Go.Proofs.YtofoegknealilaaDoorTab in
def zbd.f (k : Nat) (l0 : List (S44)) (a1 a2 : ByteArray) : Option (ByteArray × Bool) :=
 (zaP.f k l0 [a1, a2]).map fun b => joinF b l0 a1 a2
open Go.Proofs.YtofoegknealilaaDoorTab in
theorem zbd.mono : ∀ l0 a1 a2 k, LeO (zbd.f k l0 a1 a2) (zbd.f (k + 1) l0 a1 a2) := by
 intro l0 a1 a2 k r h
 unfold zbd.f at h ⊢
 obtain ⟨c, hc, rfl⟩ := Option.map_eq_some_iff.1 h
 rw [zaP.mono l0 [a1, a2] k c hc]; rfl
open Go.Proofs.YtofoegknealilaaDoorTab in
theorem zbd.calls (k : Nat) (A0 : Option Addr) (c0 : Nat) (l0 : List (S44)) (a1 a2 : ByteArray) (r1 : ByteArray) (r2 : Bool) (w : World) (hr0 : Kd.C k44 w A0 l0.length l0) (hc0 : l0.length ≤ c0) (h : zbd.f k l0 a1 a2 = some (r1, r2)) (hG : Go.Proofs.YtofoegknealilaaDoorTab.GW w := by exact Go.Proofs.YtofoegknealilaaDoorTab.GW.below hG (by repeat (first | (with_reducible first | exact HB.out | apply zad | apply zac | apply zae) | exact HB.out | refine zav ?_ (zaa.out (by assumption)) | exact Below.refl _ _))) :
  Calls Tryd.prog 18 #[.slice A0 l0.length c0, .string a1, .string a2] w fun e w' => e = .returned (.tuple #[.string r1, .bool r2]) ∧ Below w.heap.size w w' := by
 unfold zbd.f at h
 obtain ⟨b, hb, h⟩ := Option.map_eq_some_iff.1 h
 unfold zaP.f at hb
 by_cases hl : l0.length < 1000000 ∧ [a1, a2].length < 1000000
 ·
  rw [if_pos hl] at hb
  obtain ⟨c, hc, rfl⟩ := Option.map_eq_some_iff.1 hb
  have key := zgn A0 c0 l0 a1 a2 c.1 c.2 w hr0 hl.1 (fun w' hb => zas.calls k A0 c0 l0 c.1 c.2 w' (Kd.zaF hr0 hb) hc0 hc (hG := GW.below hG hb))
  rw [h] at key
  exact key
 ·
  rw [if_neg hl] at hb; cases hb
def zah.f (k : Nat) (l0 : List (S44)) (a1 : ByteArray) (a2 : ByteArray) (a3 : ByteArray) (a4 : Bool) : Option (Bool) := (zbd.f k l0 a1 a2).bind fun bt113 => (if bt113.1.toList = a3.toList then (some (bt113.2 == a4)) else (some false))
theorem zah.mono : ∀ a0 a1 a2 a3 a4 k, LeO (zah.f k a0 a1 a2 a3 a4) (zah.f (k + 1) a0 a1 a2 a3 a4) := by
 intro a0 a1 a2 a3 a4 k
 unfold zah.f
 repeat' first
   | (with_reducible exact zbd.mono _ _ _ _)
   | (with_reducible exact LeO.refl _)
   | (with_reducible exact LeO.none _)
   | (with_reducible refine LeO.ite ?_ ?_)
   | (with_reducible refine LeO.bind ?_ (fun _ => ?_))
   | exact zbd.mono _ _ _ _
   | exact LeO.none _
   | refine LeO.ite ?_ ?_
   | refine LeO.bind ?_ (fun _ => ?_)
theorem zah.calls (k : Nat) (A0 : Option Addr) (c0 : Nat) (l0 : List (S44)) (a1 : ByteArray) (a2 : ByteArray) (a3 : ByteArray) (a4 : Bool) (r : Bool) (w : World) (hr0 : Kd.C k44 w A0 l0.length l0) (hc0 : l0.length ≤ c0) (h : zah.f k l0 a1 a2 a3 a4 = some r) (hG : Go.Proofs.YtofoegknealilaaDoorTab.GW w := by exact Go.Proofs.YtofoegknealilaaDoorTab.GW.below hG (by repeat (first | (with_reducible first | exact HB.out | apply zad | apply zac | apply zae) | exact HB.out | refine zav ?_ (zaa.out (by assumption)) | exact Below.refl _ _))) :
  Calls Tryd.prog 9 #[.slice A0 l0.length c0, .string a1, .string a2, .string a3, .bool a4] w fun e w' => e = .returned (.bool r) ∧ Below w.heap.size w w' := by
 have HR0 := zaa.mk hr0
 have HC0 := zaa.mk hc0
 clear hr0 hc0
 have HB := zaa.mk (Below.refl w.heap.size w)
 have H : ((zbd.f k l0 a1 a2).bind fun bt113 => (if bt113.1.toList = a3.toList then (some (bt113.2 == a4)) else (some false))) = some r := h
 clear h
 replace H := Option.bind_eq_some_iff.mp H
 obtain ⟨⟨t113, t114⟩, A60, H⟩ := H
 replace H : (if t113.toList = a3.toList then (some (t114 == a4)) else (some false)) = some r := H
 have A6 := zaa.mk A60
 clear A60
 by_cases c7 : t113.toList = a3.toList
 ·
  rw [if_pos c7] at H
  have c7b0 : (t113.toList == a3.toList) = true := beq_iff_eq.mpr c7
  have c7b1 : (t113.toList != a3.toList) = false := bne_eq_false_iff_eq.mpr c7
  clear c7
  obtain rfl := Option.some.inj H
  go_enter Tryd.func9, Tryd.ntmps9
  go_wp2_with (first | ((with_reducible refine zaO (f := 18) rfl ?_); refine zbj (some 17) rfl rfl Tryd.func18 k9 rfl #[.slice A0 l0.length c0, .string a1, .string a2] rfl m9 ?_; (with_reducible refine (zbd.calls k _ _ l0 a1 a2 t113 t114 _ ?side1 ?side2 A6.out).mono ?_); (case side1 => repeat (first | exact HR0.out | (with_reducible refine Kd.zaM ?_ _) | (with_reducible refine Kd.zaN ?_ _) | (with_reducible refine Kd.zaW ?_))); (case side2 => exact HC0.out); rintro e w8 ⟨rfl, hb⟩; refine ⟨_, rfl, ?_⟩; have n0_ := zaa.mk (zaq (by repeat (first | (with_reducible first | exact HB.out | apply zad | apply zac | apply zae) | exact HB.out)) hb); clear HB; have HB := n0_; clear n0_; (try clear hb); (try clear hb2); (try clear hk); (try clear hi)))
  go_ret
  exact ⟨by first | rfl | (simp [zaS, zaT] <;> rfl) | (simp [*, zaS, zaT] <;> rfl), by repeat (first | (with_reducible first | exact HB.out | apply zad | apply zac | apply zae) | exact HB.out)⟩
 ·
  rw [if_neg c7] at H
  have c7b0 : (t113.toList == a3.toList) = false := beq_eq_false_iff_ne.mpr c7
  have c7b1 : (t113.toList != a3.toList) = true := bne_iff_ne.mpr c7
  obtain rfl := Option.some.inj H
  go_enter Tryd.func9, Tryd.ntmps9
  go_wp2_with (first | ((with_reducible refine zaO (f := 18) rfl ?_); refine zbj (some 17) rfl rfl Tryd.func18 k9 rfl #[.slice A0 l0.length c0, .string a1, .string a2] rfl m9 ?_; (with_reducible refine (zbd.calls k _ _ l0 a1 a2 t113 t114 _ ?side1 ?side2 A6.out).mono ?_); (case side1 => repeat (first | exact HR0.out | (with_reducible refine Kd.zaM ?_ _) | (with_reducible refine Kd.zaN ?_ _) | (with_reducible refine Kd.zaW ?_))); (case side2 => exact HC0.out); rintro e w9 ⟨rfl, hb⟩; refine ⟨_, rfl, ?_⟩; have n0_ := zaa.mk (zaq (by repeat (first | (with_reducible first | exact HB.out | apply zad | apply zac | apply zae) | exact HB.out)) hb); clear HB; have HB := n0_; clear n0_; (try clear hb); (try clear hb2); (try clear hk); (try clear hi)))
  go_ret
  exact ⟨by first | rfl | (simp [zaS, zaT] <;> rfl) | (simp [*, zaS, zaT] <;> rfl), by repeat (first | (with_reducible first | exact HB.out | apply zad | apply zac | apply zae) | exact HB.out)⟩
def zak.l0 : Nat → List ByteArray → List ByteArray → Bool → Int → Option (Bool)
 | 0, _, _, _, _ => none
 | k + 1, x0, x1, x5, x6 => if x5 = true then (if x6 < (x0.length : Int) then (if 0 ≤ x6 then (if x6 < (x1.length : Int) then (zak.l0 k x0 x1 ((rdOf ByteArray.empty x0 x6).toList == (rdOf ByteArray.empty x1 x6).toList) (wrap64 (x6 + 1))) else (none)) else (none)) else (some x5)) else (some x5)
def zak.f (k : Nat) (l0 : List ByteArray) (l1 : List ByteArray) : Option (Bool) := zak.l0 k l0 l1 ((l0.length : Int) == (l1.length : Int)) 0
theorem zak.zbI : ∀ k, (∀ y0 y1 y2 y3, LeO (zak.l0 k y0 y1 y2 y3) (zak.l0 (k + 1) y0 y1 y2 y3))
 | 0 => fun _ _ _ _ r h => by simp [zak.l0] at h
 | k + 1 => by
  have ih0 := zak.zbI k
  ·
   intro y0 y1 y2 y3
   unfold zak.l0
   repeat' first
   | (with_reducible exact ih0 _ _ _ _)
   | (with_reducible exact LeO.refl _)
   | (with_reducible exact LeO.none _)
   | (with_reducible refine LeO.ite ?_ ?_)
   | (with_reducible refine LeO.bind ?_ (fun _ => ?_))
   | exact ih0 _ _ _ _
   | exact LeO.none _
   | refine LeO.ite ?_ ?_
   | refine LeO.bind ?_ (fun _ => ?_)
theorem zak.mono : ∀ a0 a1 k, LeO (zak.f k a0 a1) (zak.f (k + 1) a0 a1) := by
 intro a0 a1 k
 have ih0 := zak.zbI k
 unfold zak.f
 repeat' first
   | (with_reducible exact ih0 _ _ _ _)
   | (with_reducible exact LeO.refl _)
   | (with_reducible exact LeO.none _)
   | (with_reducible refine LeO.ite ?_ ?_)
   | (with_reducible refine LeO.bind ?_ (fun _ => ?_))
   | exact ih0 _ _ _ _
   | exact LeO.none _
   | refine LeO.ite ?_ ?_
   | refine LeO.bind ?_ (fun _ => ?_)
theorem zak.calls (k : Nat) (A0 : Option Addr) (c0 : Nat) (l0 : List ByteArray) (A1 : Option Addr) (c1 : Nat) (l1 : List ByteArray) (r : Bool) (w : World) (hr0 : Kd.C Kd.string w A0 l0.length l0) (hc0 : l0.length ≤ c0) (hr1 : Kd.C Kd.string w A1 l1.length l1) (hc1 : l1.length ≤ c1) (h : zak.f k l0 l1 = some r) :
  Calls Tryd.prog 11 #[.slice A0 l0.length c0, .slice A1 l1.length c1] w fun e w' => e = .returned (.bool r) ∧ zbb w w' := by
 have HR0 := zaa.mk hr0
 have HC0 := zaa.mk hc0
 clear hr0 hc0
 have HR1 := zaa.mk hr1
 have HC1 := zaa.mk hc1
 clear hr1 hc1
 have H : (zak.l0 k l0 l1 ((l0.length : Int) == (l1.length : Int)) 0) = some r := h
 clear h
 have H' := zaa.mk H
 clear H
 go_enter Tryd.func11, Tryd.ntmps11
 go_wp2
 repeat (go_quiet (fail); try go_wp2)
 go_loopg [5, 6] k (fun kq v5 v6 w' => ∃ (x5_1 : Bool) (x6_1 : Int), v5 = .bool x5_1 ∧ v6 = .int .i64 x6_1 ∧ zaa (zak.l0 kq l0 l1 x5_1 x6_1 = some r) ∧ zaa (kq ≤ k) ∧ zbb w w')
 case atStart => exact ⟨(((l0.length : Int) == (l1.length : Int))), (0), (by first | rfl | (simp; done) | (simp [*]; done)), (by first | rfl | (simp; done) | (simp [*]; done)), H', ⟨Nat.le_refl _⟩, by repeat (first | exact zbb.refl _ | apply zbb.step)⟩
 case round =>
  clear H'
  try clear c1
  try clear p2
  obtain ⟨x5_1, x6_1, rfl, rfl, HA, HK1, ⟨m1, rfl⟩⟩ := hrel
  cases gk with
  | zero => exact absurd HA.out (by simp [zak.l0])
  | succ k1 =>
   have H := HA.out
   clear HA
   simp only [zak.l0] at H
   by_cases c3 : x5_1 = true
   ·
    subst c3
    have H1 : (if x6_1 < (l0.length : Int) then (if 0 ≤ x6_1 then (if x6_1 < (l1.length : Int) then (zak.l0 k1 l0 l1 ((rdOf ByteArray.empty l0 x6_1).toList == (rdOf ByteArray.empty l1 x6_1).toList) (wrap64 (x6_1 + 1))) else (none)) else (none)) else (some true)) = some r := by rw [if_pos rfl] at H; exact H
    clear H
    have H := H1
    clear H1
    by_cases c4 : x6_1 < (l0.length : Int)
    ·
     rw [if_pos c4] at H
     have c4b0 : decide (x6_1 < (l0.length : Int)) = true := decide_eq_true c4
     clear c4
     by_cases c5 : 0 ≤ x6_1
     ·
      rw [if_pos c5] at H
      have c5b0 : decide (0 ≤ x6_1) = true := decide_eq_true c5
      clear c5
      by_cases c6 : x6_1 < (l1.length : Int)
      ·
       rw [if_pos c6] at H
       have c6b0 : decide (x6_1 < (l1.length : Int)) = true := decide_eq_true c6
       clear c6
       have H' := zaa.mk H
       clear H
       have p115 : 0 ≤ (x6_1 : Int) := of_decide_eq_true (by first | (with_reducible assumption) | assumption)
       have q115 : x6_1 < (l0.length : Int) := of_decide_eq_true (by first | (with_reducible assumption) | assumption)
       obtain ⟨ad115, e115, hx115_0⟩ := Kd.zcb HR0.out x6_1 p115 q115
       cases e115
       replace p115 := eq_true p115
       replace q115 := eq_true q115
       have p116 : 0 ≤ (x6_1 : Int) := of_decide_eq_true (by first | (with_reducible assumption) | assumption)
       have q116 : x6_1 < (l1.length : Int) := of_decide_eq_true (by first | (with_reducible assumption) | assumption)
       obtain ⟨ad116, e116, hx116_0⟩ := Kd.zcb HR1.out x6_1 p116 q116
       cases e116
       replace p116 := eq_true p116
       replace q116 := eq_true q116
       go_wp2
       repeat (go_quiet (fail); try go_wp2)
       go_roundg k1
       case measure => have := HK1.out; omega
       case rel => exact ⟨(((rdOf ByteArray.empty l0 x6_1).toList == (rdOf ByteArray.empty l1 x6_1).toList)), (wrap64 (x6_1 + 1)), (by first | rfl | (simp; done) | (simp [*]; done)), (by first | rfl | (simp; done) | (simp [*]; done)), H', ⟨by have := HK1.out; omega⟩, by repeat (first | exact zbb.refl _ | apply zbb.step)⟩
      ·
       rw [if_neg c6] at H
       exact absurd H s9
     ·
      rw [if_neg c5] at H
      exact absurd H s9
    ·
     rw [if_neg c4] at H
     have c4b0 : decide (x6_1 < (l0.length : Int)) = false := decide_eq_false c4
     clear c4
     obtain rfl := Option.some.inj H
     go_wp2
     repeat (go_quiet (fail); try go_wp2)
     go_ret
     exact ⟨by first | rfl | (simp; done) | (simp [*]; done), by repeat (first | exact zbb.refl _ | apply zbb.step)⟩
   ·
    replace c3 := Bool.eq_false_iff.mpr c3
    subst c3
    have H1 : (some false) = some r := by rw [if_neg (show ¬ (false = true) by decide)] at H; exact H
    clear H
    have H := H1
    clear H1
    obtain rfl := Option.some.inj H
    go_wp2
    repeat (go_quiet (fail); try go_wp2)
    go_ret
    exact ⟨by first | rfl | (simp; done) | (simp [*]; done), by repeat (first | exact zbb.refl _ | apply zbb.step)⟩
def zaV.f (k : Nat)  : Option (Bool) := (zba.f).bind fun t129 => ((zan.f k t129 (⟨#[68]⟩ : ByteArray) (⟨#[65]⟩ : ByteArray)).bind fun t132 => (if t132 = true then ((zan.f k t129 (⟨#[65]⟩ : ByteArray) (⟨#[68]⟩ : ByteArray)).bind fun t133 => (if t133 = true then (none) else ((zah.f k t129 (⟨#[68]⟩ : ByteArray) (⟨#[67]⟩ : ByteArray) (⟨#[65]⟩ : ByteArray) true).bind fun t134 => (if t134 = true then ((zaj.f k t129 (⟨#[66]⟩ : ByteArray)).bind fun t135 => ((zak.f k t135 (([(⟨#[66]⟩ : ByteArray), (⟨#[68]⟩ : ByteArray)] : List ByteArray))).bind fun t141 => (if t141 = true then ((zat.f k t129 (⟨#[68]⟩ : ByteArray)).bind fun t142 => (some t142)) else (none)))) else (none))))) else (none)))
theorem zaV.mono : ∀ k, LeO (zaV.f k ) (zaV.f (k + 1) ) := by
 intro  k
 unfold zaV.f
 repeat' first
   | (with_reducible exact zak.mono _ _ _)
   | (with_reducible exact zah.mono _ _ _ _ _ _)
   | (with_reducible exact zaj.mono _ _ _)
   | (with_reducible exact zat.mono _ _ _)
   | (with_reducible exact zan.mono _ _ _ _)
   | (with_reducible exact LeO.refl _)
   | (with_reducible exact LeO.none _)
   | (with_reducible refine LeO.ite ?_ ?_)
   | (with_reducible refine LeO.bind ?_ (fun _ => ?_))
   | exact zak.mono _ _ _
   | exact zah.mono _ _ _ _ _ _
   | exact zaj.mono _ _ _
   | exact zat.mono _ _ _
   | exact zan.mono _ _ _ _
   | exact LeO.none _
   | refine LeO.ite ?_ ?_
   | refine LeO.bind ?_ (fun _ => ?_)
theorem zaV.calls (k : Nat)  (r : Bool) (w : World) (h : zaV.f k  = some r) (hG : Go.Proofs.YtofoegknealilaaDoorTab.GW w := by exact Go.Proofs.YtofoegknealilaaDoorTab.GW.below hG (by repeat (first | (with_reducible first | exact HB.out | apply zad | apply zac | apply zae) | exact HB.out | refine zav ?_ (zaa.out (by assumption)) | exact Below.refl _ _))) :
  Calls Tryd.prog 10 #[] w fun e w' => e = .returned (.bool r) ∧ Below w.heap.size w w' := by
 have HB := zaa.mk (Below.refl w.heap.size w)
 have H : ((zba.f).bind fun t129 => ((zan.f k t129 (⟨#[68]⟩ : ByteArray) (⟨#[65]⟩ : ByteArray)).bind fun t132 => (if t132 = true then ((zan.f k t129 (⟨#[65]⟩ : ByteArray) (⟨#[68]⟩ : ByteArray)).bind fun t133 => (if t133 = true then (none) else ((zah.f k t129 (⟨#[68]⟩ : ByteArray) (⟨#[67]⟩ : ByteArray) (⟨#[65]⟩ : ByteArray) true).bind fun t134 => (if t134 = true then ((zaj.f k t129 (⟨#[66]⟩ : ByteArray)).bind fun t135 => ((zak.f k t135 (([(⟨#[66]⟩ : ByteArray), (⟨#[68]⟩ : ByteArray)] : List ByteArray))).bind fun t141 => (if t141 = true then ((zat.f k t129 (⟨#[68]⟩ : ByteArray)).bind fun t142 => (some t142)) else (none)))) else (none))))) else (none)))) = some r := h
 clear h
 replace H := Option.bind_eq_some_iff.mp H
 obtain ⟨t129, A10, H⟩ := H
 replace H : ((zan.f k t129 (⟨#[68]⟩ : ByteArray) (⟨#[65]⟩ : ByteArray)).bind fun t132 => (if t132 = true then ((zan.f k t129 (⟨#[65]⟩ : ByteArray) (⟨#[68]⟩ : ByteArray)).bind fun t133 => (if t133 = true then (none) else ((zah.f k t129 (⟨#[68]⟩ : ByteArray) (⟨#[67]⟩ : ByteArray) (⟨#[65]⟩ : ByteArray) true).bind fun t134 => (if t134 = true then ((zaj.f k t129 (⟨#[66]⟩ : ByteArray)).bind fun t135 => ((zak.f k t135 (([(⟨#[66]⟩ : ByteArray), (⟨#[68]⟩ : ByteArray)] : List ByteArray))).bind fun t141 => (if t141 = true then ((zat.f k t129 (⟨#[68]⟩ : ByteArray)).bind fun t142 => (some t142)) else (none)))) else (none))))) else (none))) = some r := H
 have A1 := zaa.mk A10
 clear A10
 replace H := Option.bind_eq_some_iff.mp H
 obtain ⟨t132, A20, H⟩ := H
 replace H : (if t132 = true then ((zan.f k t129 (⟨#[65]⟩ : ByteArray) (⟨#[68]⟩ : ByteArray)).bind fun t133 => (if t133 = true then (none) else ((zah.f k t129 (⟨#[68]⟩ : ByteArray) (⟨#[67]⟩ : ByteArray) (⟨#[65]⟩ : ByteArray) true).bind fun t134 => (if t134 = true then ((zaj.f k t129 (⟨#[66]⟩ : ByteArray)).bind fun t135 => ((zak.f k t135 (([(⟨#[66]⟩ : ByteArray), (⟨#[68]⟩ : ByteArray)] : List ByteArray))).bind fun t141 => (if t141 = true then ((zat.f k t129 (⟨#[68]⟩ : ByteArray)).bind fun t142 => (some t142)) else (none)))) else (none))))) else (none)) = some r := H
 have A2 := zaa.mk A20
 clear A20
 by_cases c3 : t132 = true
 ·
  subst c3
  have H1 : ((zan.f k t129 (⟨#[65]⟩ : ByteArray) (⟨#[68]⟩ : ByteArray)).bind fun t133 => (if t133 = true then (none) else ((zah.f k t129 (⟨#[68]⟩ : ByteArray) (⟨#[67]⟩ : ByteArray) (⟨#[65]⟩ : ByteArray) true).bind fun t134 => (if t134 = true then ((zaj.f k t129 (⟨#[66]⟩ : ByteArray)).bind fun t135 => ((zak.f k t135 (([(⟨#[66]⟩ : ByteArray), (⟨#[68]⟩ : ByteArray)] : List ByteArray))).bind fun t141 => (if t141 = true then ((zat.f k t129 (⟨#[68]⟩ : ByteArray)).bind fun t142 => (some t142)) else (none)))) else (none))))) = some r := by rw [if_pos rfl] at H; exact H
  clear H
  have H := H1
  clear H1
  replace H := Option.bind_eq_some_iff.mp H
  obtain ⟨t133, A40, H⟩ := H
  replace H : (if t133 = true then (none) else ((zah.f k t129 (⟨#[68]⟩ : ByteArray) (⟨#[67]⟩ : ByteArray) (⟨#[65]⟩ : ByteArray) true).bind fun t134 => (if t134 = true then ((zaj.f k t129 (⟨#[66]⟩ : ByteArray)).bind fun t135 => ((zak.f k t135 (([(⟨#[66]⟩ : ByteArray), (⟨#[68]⟩ : ByteArray)] : List ByteArray))).bind fun t141 => (if t141 = true then ((zat.f k t129 (⟨#[68]⟩ : ByteArray)).bind fun t142 => (some t142)) else (none)))) else (none)))) = some r := H
  have A4 := zaa.mk A40
  clear A40
  by_cases c5 : t133 = true
  ·
   subst c5
   have H1 : (none) = some r := by rw [if_pos rfl] at H; exact H
   clear H
   have H := H1
   clear H1
   exact absurd H s9
  ·
   replace c5 := Bool.eq_false_iff.mpr c5
   subst c5
   have H1 : ((zah.f k t129 (⟨#[68]⟩ : ByteArray) (⟨#[67]⟩ : ByteArray) (⟨#[65]⟩ : ByteArray) true).bind fun t134 => (if t134 = true then ((zaj.f k t129 (⟨#[66]⟩ : ByteArray)).bind fun t135 => ((zak.f k t135 (([(⟨#[66]⟩ : ByteArray), (⟨#[68]⟩ : ByteArray)] : List ByteArray))).bind fun t141 => (if t141 = true then ((zat.f k t129 (⟨#[68]⟩ : ByteArray)).bind fun t142 => (some t142)) else (none)))) else (none))) = some r := by rw [if_neg (show ¬ (false = true) by decide)] at H; exact H
   clear H
   have H := H1
   clear H1
   replace H := Option.bind_eq_some_iff.mp H
   obtain ⟨t134, A60, H⟩ := H
   replace H : (if t134 = true then ((zaj.f k t129 (⟨#[66]⟩ : ByteArray)).bind fun t135 => ((zak.f k t135 (([(⟨#[66]⟩ : ByteArray), (⟨#[68]⟩ : ByteArray)] : List ByteArray))).bind fun t141 => (if t141 = true then ((zat.f k t129 (⟨#[68]⟩ : ByteArray)).bind fun t142 => (some t142)) else (none)))) else (none)) = some r := H
   have A6 := zaa.mk A60
   clear A60
   by_cases c7 : t134 = true
   ·
    subst c7
    have H1 : ((zaj.f k t129 (⟨#[66]⟩ : ByteArray)).bind fun t135 => ((zak.f k t135 (([(⟨#[66]⟩ : ByteArray), (⟨#[68]⟩ : ByteArray)] : List ByteArray))).bind fun t141 => (if t141 = true then ((zat.f k t129 (⟨#[68]⟩ : ByteArray)).bind fun t142 => (some t142)) else (none)))) = some r := by rw [if_pos rfl] at H; exact H
    clear H
    have H := H1
    clear H1
    replace H := Option.bind_eq_some_iff.mp H
    obtain ⟨t135, A80, H⟩ := H
    replace H : ((zak.f k t135 (([(⟨#[66]⟩ : ByteArray), (⟨#[68]⟩ : ByteArray)] : List ByteArray))).bind fun t141 => (if t141 = true then ((zat.f k t129 (⟨#[68]⟩ : ByteArray)).bind fun t142 => (some t142)) else (none))) = some r := H
    have A8 := zaa.mk A80
    clear A80
    obtain ⟨y138, hy138⟩ : ∃ y_ : List ByteArray, y_ = (([(⟨#[66]⟩ : ByteArray), (⟨#[68]⟩ : ByteArray)] : List ByteArray)) := ⟨_, rfl⟩
    replace H : ((zak.f k t135 y138).bind fun t141 => (if t141 = true then ((zat.f k t129 (⟨#[68]⟩ : ByteArray)).bind fun t142 => (some t142)) else (none))) = some r := by first | (rw [hy138]; with_reducible exact H) | (have H2_ := (Option.bind_some _ _).symm.trans H; rw [hy138]; with_reducible exact H2_) | (have H2_ := (Option.bind_some _ _).symm.trans H; with_reducible exact H2_) | with_reducible exact H | (rw [hy138]; exact H) | exact H
    have Ny138 := zaa.mk hy138
    clear hy138
    replace H := Option.bind_eq_some_iff.mp H
    obtain ⟨t141, A90, H⟩ := H
    replace H : (if t141 = true then ((zat.f k t129 (⟨#[68]⟩ : ByteArray)).bind fun t142 => (some t142)) else (none)) = some r := H
    have A9 := zaa.mk A90
    clear A90
    by_cases c10 : t141 = true
    ·
     subst c10
     have H1 : ((zat.f k t129 (⟨#[68]⟩ : ByteArray)).bind fun t142 => (some t142)) = some r := by rw [if_pos rfl] at H; exact H
     clear H
     have H := H1
     clear H1
     replace H := Option.bind_eq_some_iff.mp H
     obtain ⟨t142, A110, H⟩ := H
     replace H : (some t142) = some r := H
     have A11 := zaa.mk A110
     clear A110
     obtain rfl := Option.some.inj H
     go_enter Tryd.func10, Tryd.ntmps10
     go_wp2_with (first | ((with_reducible refine zaO (f := 7) rfl ?_); refine zbj (some 2) rfl rfl Tryd.func7 k9 rfl #[] rfl m9 ?_; (with_reducible refine (zba.calls  t129 _ A1.out).mono ?_); rintro e w12 ⟨v130, rfl, ho0, hb⟩; refine ⟨_, rfl, ?_⟩; have n0_ := zaa.mk (Kd.zbk ho0 (zaL (by repeat (first | (with_reducible first | exact HB.out | apply zad | apply zac | apply zae) | exact HB.out)))); have n1_ := zaa.mk (zaq (by repeat (first | (with_reducible first | exact HB.out | apply zad | apply zac | apply zae) | exact HB.out)) hb); clear HB; have HO131 := n0_; have HB := n1_; clear n0_ n1_; (try clear hb); (try clear hb2); (try clear hk); (try clear hi); (try clear ho0); obtain ⟨Ao13, co13, eo13⟩ := Kd.zaZ HO131.out; subst eo13) | ((with_reducible refine zaO (f := 8) rfl ?_); refine zbj (some 4) rfl rfl Tryd.func8 k9 rfl #[.slice Ao13 t129.length co13, .string (⟨#[68]⟩ : ByteArray), .string (⟨#[65]⟩ : ByteArray)] rfl m9 ?_; (with_reducible refine (zan.calls k _ _ t129 (⟨#[68]⟩ : ByteArray) (⟨#[65]⟩ : ByteArray) true _ ?side1 ?side2 A2.out).mono ?_); (case side1 => repeat (first | exact (Kd.zaw HO131.out).2.2 | (with_reducible refine Kd.zaM ?_ _) | (with_reducible refine Kd.zaN ?_ _) | (with_reducible refine Kd.zaW ?_))); (case side2 => exact (Kd.zaw HO131.out).2.1); rintro e w14 ⟨rfl, hb⟩; refine ⟨_, rfl, ?_⟩; have n0_ := zaa.mk (Kd.zaG (by (with_reducible repeat (first | apply Kd.zax | apply Kd.zay | apply Kd.zaC)); exact HO131.out) hb); have n1_ := zaa.mk (zaq (by repeat (first | (with_reducible first | exact HB.out | apply zad | apply zac | apply zae) | exact HB.out)) hb); clear HO131; clear HB; have HO131 := n0_; have HB := n1_; clear n0_ n1_; (try clear hb); (try clear hb2); (try clear hk); (try clear hi)) | (go_at_call 8; (with_reducible refine (zan.calls k _ _ t129 (⟨#[65]⟩ : ByteArray) (⟨#[68]⟩ : ByteArray) false _ ?side1 ?side2 A4.out).mono ?_); (case side1 => repeat (first | exact (Kd.zaw HO131.out).2.2 | (with_reducible refine Kd.zaM ?_ _) | (with_reducible refine Kd.zaN ?_ _) | (with_reducible refine Kd.zaW ?_))); (case side2 => exact (Kd.zaw HO131.out).2.1); rintro e w15 ⟨rfl, hb⟩; have n0_ := zaa.mk (Kd.zaG (by (with_reducible repeat (first | apply Kd.zax | apply Kd.zay | apply Kd.zaC)); exact HO131.out) hb); have n1_ := zaa.mk (zaq (by repeat (first | (with_reducible first | exact HB.out | apply zad | apply zac | apply zae) | exact HB.out)) hb); clear HO131; clear HB; have HO131 := n0_; have HB := n1_; clear n0_ n1_; (try clear hb); (try clear hb2); (try clear hk); (try clear hi)) | (go_at_call 9; (with_reducible refine (zah.calls k _ _ t129 (⟨#[68]⟩ : ByteArray) (⟨#[67]⟩ : ByteArray) (⟨#[65]⟩ : ByteArray) true true _ ?side1 ?side2 A6.out).mono ?_); (case side1 => repeat (first | exact (Kd.zaw HO131.out).2.2 | (with_reducible refine Kd.zaM ?_ _) | (with_reducible refine Kd.zaN ?_ _) | (with_reducible refine Kd.zaW ?_))); (case side2 => exact (Kd.zaw HO131.out).2.1); rintro e w16 ⟨rfl, hb⟩; have n0_ := zaa.mk (Kd.zaG (by (with_reducible repeat (first | apply Kd.zax | apply Kd.zay | apply Kd.zaC)); exact HO131.out) hb); have n1_ := zaa.mk (zaq (by repeat (first | (with_reducible first | exact HB.out | apply zad | apply zac | apply zae) | exact HB.out)) hb); clear HO131; clear HB; have HO131 := n0_; have HB := n1_; clear n0_ n1_; (try clear hb); (try clear hb2); (try clear hk); (try clear hi)) | (go_at_call 12; (with_reducible refine (zaj.calls k _ _ t129 (⟨#[66]⟩ : ByteArray) t135 _ ?side1 ?side2 A8.out).mono ?_); (case side1 => repeat (first | exact (Kd.zaw HO131.out).2.2 | (with_reducible refine Kd.zaM ?_ _) | (with_reducible refine Kd.zaN ?_ _) | (with_reducible refine Kd.zaW ?_))); (case side2 => exact (Kd.zaw HO131.out).2.1); rintro e w17 ⟨v136, rfl, ho0, hb⟩; have n0_ := zaa.mk (Kd.zaG (by (with_reducible repeat (first | apply Kd.zax | apply Kd.zay | apply Kd.zaC)); exact HO131.out) hb); have n1_ := zaa.mk (Kd.zbk ho0 (zaL (by repeat (first | (with_reducible first | exact HB.out | apply zad | apply zac | apply zae) | exact HB.out)))); have n2_ := zaa.mk (zaq (by repeat (first | (with_reducible first | exact HB.out | apply zad | apply zac | apply zae) | exact HB.out)) hb); clear HO131; clear HB; have HO131 := n0_; have HO137 := n1_; have HB := n2_; clear n0_ n1_ n2_; (try clear hb); (try clear hb2); (try clear hk); (try clear hi); (try clear ho0)) | ((with_reducible refine zbp (N := 17) rfl ?_); (try (refine zbS (by rfl) ?_; dsimp only)); refine Kd.R_lit Kd.string _ 9 ?hg (N := 17) ?hd (xs := ([(⟨#[66]⟩ : ByteArray), (⟨#[68]⟩ : ByteArray)] : List ByteArray)) (inner := [.string (⟨#[66]⟩ : ByteArray), .string (⟨#[68]⟩ : ByteArray)]) (ok := fun _ => True) (okp := fun _ => True) ?hr ?hp (fun _ hk => hk) trivial (Below.refl _ _) (Nat.le_refl _) s9 ?_; (case hd => rfl); (case hg => rfl); (case hr => first | (go_simp; done) | (go_simp; rfl)); (case hp => exact (Reps.one (show Kd.M Kd.string _ _ _ (⟨#[66]⟩ : ByteArray) [.string (⟨#[66]⟩ : ByteArray)] from rfl) (Reps.one (show Kd.M Kd.string _ _ _ (⟨#[68]⟩ : ByteArray) [.string (⟨#[68]⟩ : ByteArray)] from rfl) (Reps.none _ _)))); intro v139 w18 ho19 hb hg_ hnew_; clear hg_ hnew_; (first | rw [← Ny138.out] at ho19 | (simp only [Int.reduceToNat] at ho19; rw [← Ny138.out] at ho19)); have n0_ := zaa.mk (Kd.zaG (by (with_reducible repeat (first | apply Kd.zax | apply Kd.zay | apply Kd.zaC)); exact HO131.out) hb); have n1_ := zaa.mk (Kd.zcW (by (with_reducible repeat (first | apply Kd.zax | apply Kd.zay | apply Kd.zaC)); exact HO137.out) (Kd.zdy ho19) hb); have n2_ := zaa.mk (Kd.zbk (Kd.zeF ho19 (Kd.R_lt (by (with_reducible repeat (first | apply Kd.zax | apply Kd.zay | apply Kd.zaC)); exact HO137.out))) (zaL (by repeat (first | (with_reducible first | exact HB.out | apply zad | apply zac | apply zae) | exact HB.out)))); have n3_ := zaa.mk (zaq (by repeat (first | (with_reducible first | exact HB.out | apply zad | apply zac | apply zae) | exact HB.out)) hb); clear HO131; clear HO137; clear HB; have HO131 := n0_; have HO137 := n1_; have HO140 := n2_; have HB := n3_; clear n0_ n1_ n2_ n3_; clear hb ho19; obtain ⟨Ao20, co20, eo20⟩ := Kd.zaZ HO137.out; subst eo20; obtain ⟨Ao21, co21, eo21⟩ := Kd.zaZ HO140.out; subst eo21) | (go_at_call 11; (with_reducible refine (zak.calls k _ _ t135 _ _ y138 true _ ?side1 ?side2 ?side3 ?side4 A9.out).mono ?_); (case side1 => repeat (first | exact (Kd.zaw HO137.out).2.2 | (with_reducible refine Kd.zaM ?_ _) | (with_reducible refine Kd.zaN ?_ _) | (with_reducible refine Kd.zaW ?_))); (case side2 => exact (Kd.zaw HO137.out).2.1); (case side3 => repeat (first | exact (Kd.zaw HO140.out).2.2 | (with_reducible refine Kd.zaM ?_ _) | (with_reducible refine Kd.zaN ?_ _) | (with_reducible refine Kd.zaW ?_))); (case side4 => exact (Kd.zaw HO140.out).2.1); rintro e w' ⟨rfl, ⟨nd, rfl⟩⟩) | (go_at_call 13; (with_reducible refine (zat.calls k _ _ t129 (⟨#[68]⟩ : ByteArray) t142 _ ?side1 ?side2 A11.out).mono ?_); (case side1 => repeat (first | exact (Kd.zaw HO131.out).2.2 | (with_reducible refine Kd.zaM ?_ _) | (with_reducible refine Kd.zaN ?_ _) | (with_reducible refine Kd.zaW ?_))); (case side2 => exact (Kd.zaw HO131.out).2.1); rintro e w22 ⟨rfl, hb⟩; have n0_ := zaa.mk (Kd.zaG (by (with_reducible repeat (first | apply Kd.zax | apply Kd.zay | apply Kd.zaC)); exact HO131.out) hb); have n1_ := zaa.mk (Kd.zaG (by (with_reducible repeat (first | apply Kd.zax | apply Kd.zay | apply Kd.zaC)); exact HO137.out) hb); have n2_ := zaa.mk (Kd.zaG (by (with_reducible repeat (first | apply Kd.zax | apply Kd.zay | apply Kd.zaC)); exact HO140.out) hb); have n3_ := zaa.mk (zaq (by repeat (first | (with_reducible first | exact HB.out | apply zad | apply zac | apply zae) | exact HB.out)) hb); clear HO131; clear HO137; clear HO140; clear HB; have HO131 := n0_; have HO137 := n1_; have HO140 := n2_; have HB := n3_; clear n0_ n1_ n2_ n3_; (try clear hb); (try clear hb2); (try clear hk); (try clear hi)))
     go_ret
     exact ⟨by first | rfl | (simp [zaS, zaT] <;> rfl) | (simp [*, zaS, zaT] <;> rfl), by repeat (first | (with_reducible first | exact HB.out | apply zad | apply zac | apply zae) | exact HB.out)⟩
    ·
     replace c10 := Bool.eq_false_iff.mpr c10
     subst c10
     have H1 : (none) = some r := by rw [if_neg (show ¬ (false = true) by decide)] at H; exact H
     clear H
     have H := H1
     clear H1
     exact absurd H s9
   ·
    replace c7 := Bool.eq_false_iff.mpr c7
    subst c7
    have H1 : (none) = some r := by rw [if_neg (show ¬ (false = true) by decide)] at H; exact H
    clear H
    have H := H1
    clear H1
    exact absurd H s9
 ·
  replace c3 := Bool.eq_false_iff.mpr c3
  subst c3
  have H1 : (none) = some r := by rw [if_neg (show ¬ (false = true) by decide)] at H; exact H
  clear H
  have H := H1
  clear H1
  exact absurd H s9
mutual
def zab.j0 : Nat → List (S44) → Bool → Option (Bool)
 | 0, _, _ => none
 | k + 1, x1, x2 => (zah.f k x1 (⟨#[67]⟩ : ByteArray) (⟨#[68]⟩ : ByteArray) (⟨#[65]⟩ : ByteArray) true).bind fun t150 => (if t150 = true then ((zah.f k x1 (⟨#[68]⟩ : ByteArray) (⟨#[66]⟩ : ByteArray) (⟨#[66]⟩ : ByteArray) true).bind fun t151 => (if t151 = true then ((zah.f k x1 (⟨#[65]⟩ : ByteArray) (⟨#[88]⟩ : ByteArray) (⟨#[]⟩ : ByteArray) false).bind fun t152 => (if t152 = true then ((zah.f k x1 (⟨#[105, 110, 116]⟩ : ByteArray) (⟨#[105, 110, 116]⟩ : ByteArray) (⟨#[105, 110, 116]⟩ : ByteArray) true).bind fun t153 => (if t153 = true then ((zah.f k x1 (⟨#[105, 110, 116]⟩ : ByteArray) (⟨#[63]⟩ : ByteArray) (⟨#[]⟩ : ByteArray) false).bind fun t154 => (if t154 = true then ((zah.f k x1 (⟨#[63]⟩ : ByteArray) (⟨#[63]⟩ : ByteArray) (⟨#[63]⟩ : ByteArray) true).bind fun t155 => (zab.j1 k x1 x2 t155)) else (zab.j1 k x1 x2 false))) else (zab.j1 k x1 x2 false))) else (zab.j1 k x1 x2 false))) else (zab.j1 k x1 x2 false))) else (zab.j1 k x1 x2 false))
def zab.j1 : Nat → List (S44) → Bool → Bool → Option (Bool)
 | 0, _, _, _ => none
 | k + 1, x1, x2, x3 => (zaV.f k).bind fun t156 => (if t156 = true then (if x2 = true then (if x3 = true then ((zaj.f k x1 (⟨#[65]⟩ : ByteArray)).bind fun t157 => ((zak.f k t157 (([(⟨#[65]⟩ : ByteArray), (⟨#[66]⟩ : ByteArray), (⟨#[67]⟩ : ByteArray), (⟨#[68]⟩ : ByteArray)] : List ByteArray))).bind fun t163 => (if t163 = true then ((zaj.f k x1 (⟨#[105, 110, 116]⟩ : ByteArray)).bind fun t164 => (if (t164.length : Int) = 0 then ((zat.f k x1 (⟨#[66]⟩ : ByteArray)).bind fun t167 => (if t167 = true then (none) else ((zat.f k x1 (⟨#[63]⟩ : ByteArray)).bind fun t168 => (some (!t168))))) else (none))) else (none)))) else (none)) else (none)) else (none))
end
def zab.f (k : Nat)  : Option (Bool) := (zba.f).bind fun t143 => ((zan.f k t143 (⟨#[65]⟩ : ByteArray) (⟨#[65]⟩ : ByteArray)).bind fun t146 => (if t146 = true then ((zan.f k t143 (⟨#[105, 110, 116]⟩ : ByteArray) (⟨#[105, 110, 116]⟩ : ByteArray)).bind fun t147 => (if t147 = true then ((zan.f k t143 (⟨#[65]⟩ : ByteArray) (⟨#[63]⟩ : ByteArray)).bind fun t148 => (if t148 = true then (zab.j0 k t143 false) else ((zan.f k t143 (⟨#[89]⟩ : ByteArray) (⟨#[89]⟩ : ByteArray)).bind fun t149 => (zab.j0 k t143 (!t149))))) else (zab.j0 k t143 false))) else (zab.j0 k t143 false)))
theorem zab.zbI : ∀ k, (∀ y0 y1, LeO (zab.j0 k y0 y1) (zab.j0 (k + 1) y0 y1)) ∧ (∀ y0 y1 y2, LeO (zab.j1 k y0 y1 y2) (zab.j1 (k + 1) y0 y1 y2))
 | 0 => ⟨fun _ _ r h => by simp [zab.j0] at h, fun _ _ _ r h => by simp [zab.j1] at h⟩
 | k + 1 => by
  obtain ⟨ih0, ih1⟩ := zab.zbI k
  refine ⟨?_, ?_⟩
  ·
   intro y0 y1
   unfold zab.j0
   repeat' first
   | (with_reducible exact ih0 _ _)
   | (with_reducible exact ih1 _ _ _)
   | (with_reducible exact zak.mono _ _ _)
   | (with_reducible exact zaV.mono _)
   | (with_reducible exact zah.mono _ _ _ _ _ _)
   | (with_reducible exact zaj.mono _ _ _)
   | (with_reducible exact zat.mono _ _ _)
   | (with_reducible exact zan.mono _ _ _ _)
   | (with_reducible exact LeO.refl _)
   | (with_reducible exact LeO.none _)
   | (with_reducible refine LeO.ite ?_ ?_)
   | (with_reducible refine LeO.bind ?_ (fun _ => ?_))
   | exact ih0 _ _
   | exact ih1 _ _ _
   | exact zak.mono _ _ _
   | exact zaV.mono _
   | exact zah.mono _ _ _ _ _ _
   | exact zaj.mono _ _ _
   | exact zat.mono _ _ _
   | exact zan.mono _ _ _ _
   | exact LeO.none _
   | refine LeO.ite ?_ ?_
   | refine LeO.bind ?_ (fun _ => ?_)
  ·
   intro y0 y1 y2
   unfold zab.j1
   repeat' first
   | (with_reducible exact ih0 _ _)
   | (with_reducible exact ih1 _ _ _)
   | (with_reducible exact zak.mono _ _ _)
   | (with_reducible exact zaV.mono _)
   | (with_reducible exact zah.mono _ _ _ _ _ _)
   | (with_reducible exact zaj.mono _ _ _)
   | (with_reducible exact zat.mono _ _ _)
   | (with_reducible exact zan.mono _ _ _ _)
   | (with_reducible exact LeO.refl _)
   | (with_reducible exact LeO.none _)
   | (with_reducible refine LeO.ite ?_ ?_)
   | (with_reducible refine LeO.bind ?_ (fun _ => ?_))
   | exact ih0 _ _
   | exact ih1 _ _ _
   | exact zak.mono _ _ _
   | exact zaV.mono _
   | exact zah.mono _ _ _ _ _ _
   | exact zaj.mono _ _ _
   | exact zat.mono _ _ _
   | exact zan.mono _ _ _ _
   | exact LeO.none _
   | refine LeO.ite ?_ ?_
   | refine LeO.bind ?_ (fun _ => ?_)
theorem zab.mono : ∀ k, LeO (zab.f k ) (zab.f (k + 1) ) := by
 intro  k
 obtain ⟨ih0, ih1⟩ := zab.zbI k
 unfold zab.f
 repeat' first
   | (with_reducible exact ih0 _ _)
   | (with_reducible exact ih1 _ _ _)
   | (with_reducible exact zak.mono _ _ _)
   | (with_reducible exact zaV.mono _)
   | (with_reducible exact zah.mono _ _ _ _ _ _)
   | (with_reducible exact zaj.mono _ _ _)
   | (with_reducible exact zat.mono _ _ _)
   | (with_reducible exact zan.mono _ _ _ _)
   | (with_reducible exact LeO.refl _)
   | (with_reducible exact LeO.none _)
   | (with_reducible refine LeO.ite ?_ ?_)
   | (with_reducible refine LeO.bind ?_ (fun _ => ?_))
   | exact ih0 _ _
   | exact ih1 _ _ _
   | exact zak.mono _ _ _
   | exact zaV.mono _
   | exact zah.mono _ _ _ _ _ _
   | exact zaj.mono _ _ _
   | exact zat.mono _ _ _
   | exact zan.mono _ _ _ _
   | exact LeO.none _
   | refine LeO.ite ?_ ?_
   | refine LeO.bind ?_ (fun _ => ?_)
theorem zab.calls (k : Nat)  (r : Bool) (w : World) (h : zab.f k  = some r) (hG : Go.Proofs.YtofoegknealilaaDoorTab.GW w := by exact Go.Proofs.YtofoegknealilaaDoorTab.GW.below hG (by repeat (first | (with_reducible first | exact HB.out | apply zad | apply zac | apply zae) | exact HB.out | refine zav ?_ (zaa.out (by assumption)) | exact Below.refl _ _))) :
  Calls Tryd.prog 3 #[] w fun e w' => e = .returned (.bool r) ∧ Below w.heap.size w w' := by
 have HB := zaa.mk (Below.refl w.heap.size w)
 have H : ((zba.f).bind fun t143 => ((zan.f k t143 (⟨#[65]⟩ : ByteArray) (⟨#[65]⟩ : ByteArray)).bind fun t146 => (if t146 = true then ((zan.f k t143 (⟨#[105, 110, 116]⟩ : ByteArray) (⟨#[105, 110, 116]⟩ : ByteArray)).bind fun t147 => (if t147 = true then ((zan.f k t143 (⟨#[65]⟩ : ByteArray) (⟨#[63]⟩ : ByteArray)).bind fun t148 => (if t148 = true then (zab.j0 k t143 false) else ((zan.f k t143 (⟨#[89]⟩ : ByteArray) (⟨#[89]⟩ : ByteArray)).bind fun t149 => (zab.j0 k t143 (!t149))))) else (zab.j0 k t143 false))) else (zab.j0 k t143 false)))) = some r := h
 clear h
 replace H := Option.bind_eq_some_iff.mp H
 obtain ⟨t143, A10, H⟩ := H
 replace H : ((zan.f k t143 (⟨#[65]⟩ : ByteArray) (⟨#[65]⟩ : ByteArray)).bind fun t146 => (if t146 = true then ((zan.f k t143 (⟨#[105, 110, 116]⟩ : ByteArray) (⟨#[105, 110, 116]⟩ : ByteArray)).bind fun t147 => (if t147 = true then ((zan.f k t143 (⟨#[65]⟩ : ByteArray) (⟨#[63]⟩ : ByteArray)).bind fun t148 => (if t148 = true then (zab.j0 k t143 false) else ((zan.f k t143 (⟨#[89]⟩ : ByteArray) (⟨#[89]⟩ : ByteArray)).bind fun t149 => (zab.j0 k t143 (!t149))))) else (zab.j0 k t143 false))) else (zab.j0 k t143 false))) = some r := H
 have A1 := zaa.mk A10
 clear A10
 have HC2 := zaa.mk H
 clear H
 go_enter Tryd.func3, Tryd.ntmps3
 go_upto_region 2 with (first | ((with_reducible refine zaO (f := 7) rfl ?_); refine zbj (some 4) rfl rfl Tryd.func7 k9 rfl #[] rfl m9 ?_; (with_reducible refine (zba.calls  t143 _ A1.out).mono ?_); rintro e w3 ⟨v144, rfl, ho0, hb⟩; refine ⟨_, rfl, ?_⟩; have n0_ := zaa.mk (Kd.zbk ho0 (zaL (by repeat (first | (with_reducible first | exact HB.out | apply zad | apply zac | apply zae) | exact HB.out)))); have n1_ := zaa.mk (zaq (by repeat (first | (with_reducible first | exact HB.out | apply zad | apply zac | apply zae) | exact HB.out)) hb); clear HB; have HO145 := n0_; have HB := n1_; clear n0_ n1_; (try clear hb); (try clear hb2); (try clear hk); (try clear hi); (try clear ho0)))
 (try simp only [Act.put, List.setIfInBounds_toArray, List.set_cons_zero, List.set_cons_succ])
 go_cut [2] (fun v2 wc => ∃ (kq : Nat) (x2_1 : Bool), v2 = .bool x2_1 ∧ zaa (zab.j0 kq t143 x2_1 = some r) ∧ zaa (kq ≤ k) ∧ zaa (Kd.R k44 44 wc w.heap.size (fun _ => True) v144 t143) ∧ zaa (Below w.heap.size w wc))
 case first =>
  have H := HC2.out
  clear HC2
  replace H := Option.bind_eq_some_iff.mp H
  obtain ⟨t146, A40, H⟩ := H
  replace H : (if t146 = true then ((zan.f k t143 (⟨#[105, 110, 116]⟩ : ByteArray) (⟨#[105, 110, 116]⟩ : ByteArray)).bind fun t147 => (if t147 = true then ((zan.f k t143 (⟨#[65]⟩ : ByteArray) (⟨#[63]⟩ : ByteArray)).bind fun t148 => (if t148 = true then (zab.j0 k t143 false) else ((zan.f k t143 (⟨#[89]⟩ : ByteArray) (⟨#[89]⟩ : ByteArray)).bind fun t149 => (zab.j0 k t143 (!t149))))) else (zab.j0 k t143 false))) else (zab.j0 k t143 false)) = some r := H
  have A4 := zaa.mk A40
  clear A40
  by_cases c5 : t146 = true
  ·
   subst c5
   have H1 : ((zan.f k t143 (⟨#[105, 110, 116]⟩ : ByteArray) (⟨#[105, 110, 116]⟩ : ByteArray)).bind fun t147 => (if t147 = true then ((zan.f k t143 (⟨#[65]⟩ : ByteArray) (⟨#[63]⟩ : ByteArray)).bind fun t148 => (if t148 = true then (zab.j0 k t143 false) else ((zan.f k t143 (⟨#[89]⟩ : ByteArray) (⟨#[89]⟩ : ByteArray)).bind fun t149 => (zab.j0 k t143 (!t149))))) else (zab.j0 k t143 false))) = some r := by rw [if_pos rfl] at H; exact H
   clear H
   have H := H1
   clear H1
   replace H := Option.bind_eq_some_iff.mp H
   obtain ⟨t147, A60, H⟩ := H
   replace H : (if t147 = true then ((zan.f k t143 (⟨#[65]⟩ : ByteArray) (⟨#[63]⟩ : ByteArray)).bind fun t148 => (if t148 = true then (zab.j0 k t143 false) else ((zan.f k t143 (⟨#[89]⟩ : ByteArray) (⟨#[89]⟩ : ByteArray)).bind fun t149 => (zab.j0 k t143 (!t149))))) else (zab.j0 k t143 false)) = some r := H
   have A6 := zaa.mk A60
   clear A60
   by_cases c7 : t147 = true
   ·
    subst c7
    have H1 : ((zan.f k t143 (⟨#[65]⟩ : ByteArray) (⟨#[63]⟩ : ByteArray)).bind fun t148 => (if t148 = true then (zab.j0 k t143 false) else ((zan.f k t143 (⟨#[89]⟩ : ByteArray) (⟨#[89]⟩ : ByteArray)).bind fun t149 => (zab.j0 k t143 (!t149))))) = some r := by rw [if_pos rfl] at H; exact H
    clear H
    have H := H1
    clear H1
    replace H := Option.bind_eq_some_iff.mp H
    obtain ⟨t148, A80, H⟩ := H
    replace H : (if t148 = true then (zab.j0 k t143 false) else ((zan.f k t143 (⟨#[89]⟩ : ByteArray) (⟨#[89]⟩ : ByteArray)).bind fun t149 => (zab.j0 k t143 (!t149)))) = some r := H
    have A8 := zaa.mk A80
    clear A80
    by_cases c9 : t148 = true
    ·
     subst c9
     have H1 : (zab.j0 k t143 false) = some r := by rw [if_pos rfl] at H; exact H
     clear H
     have H := H1
     clear H1
     have H' := zaa.mk H
     clear H
     obtain ⟨Ao10, co10, eo10⟩ := Kd.zaZ HO145.out
     subst eo10
     have Tk1_ := zaa.mk True.intro
     have Tk2_ := zaa.mk True.intro
     go_wp2_with (first | ((with_reducible refine zaO (f := 8) rfl ?_); refine zbj (some 6) rfl rfl Tryd.func8 k9 rfl #[.slice Ao10 t143.length co10, .string (⟨#[65]⟩ : ByteArray), .string (⟨#[65]⟩ : ByteArray)] rfl m9 ?_; (with_reducible refine (zan.calls k _ _ t143 (⟨#[65]⟩ : ByteArray) (⟨#[65]⟩ : ByteArray) true _ ?side1 ?side2 A4.out).mono ?_); (case side1 => repeat (first | exact (Kd.zaw HO145.out).2.2 | (with_reducible refine Kd.zaM ?_ _) | (with_reducible refine Kd.zaN ?_ _) | (with_reducible refine Kd.zaW ?_))); (case side2 => exact (Kd.zaw HO145.out).2.1); rintro e w11 ⟨rfl, hb⟩; refine ⟨_, rfl, ?_⟩; have n0_ := zaa.mk (Kd.zaG (by (with_reducible repeat (first | apply Kd.zax | apply Kd.zay | apply Kd.zaC)); exact HO145.out) hb); have n1_ := zaa.mk (zaq (by repeat (first | (with_reducible first | exact HB.out | apply zad | apply zac | apply zae) | exact HB.out)) hb); clear HO145; clear HB; have HO145 := n0_; have HB := n1_; clear n0_ n1_; (try clear hb); (try clear hb2); (try clear hk); (try clear hi)) | (clear Tk1_; go_at_call 8; (with_reducible refine (zan.calls k _ _ t143 (⟨#[105, 110, 116]⟩ : ByteArray) (⟨#[105, 110, 116]⟩ : ByteArray) true _ ?side1 ?side2 A6.out).mono ?_); (case side1 => repeat (first | exact (Kd.zaw HO145.out).2.2 | (with_reducible refine Kd.zaM ?_ _) | (with_reducible refine Kd.zaN ?_ _) | (with_reducible refine Kd.zaW ?_))); (case side2 => exact (Kd.zaw HO145.out).2.1); rintro e w12 ⟨rfl, hb⟩; have n0_ := zaa.mk (Kd.zaG (by (with_reducible repeat (first | apply Kd.zax | apply Kd.zay | apply Kd.zaC)); exact HO145.out) hb); have n1_ := zaa.mk (zaq (by repeat (first | (with_reducible first | exact HB.out | apply zad | apply zac | apply zae) | exact HB.out)) hb); clear HO145; clear HB; have HO145 := n0_; have HB := n1_; clear n0_ n1_; (try clear hb); (try clear hb2); (try clear hk); (try clear hi)) | (clear Tk2_; go_at_call 8; (with_reducible refine (zan.calls k _ _ t143 (⟨#[65]⟩ : ByteArray) (⟨#[63]⟩ : ByteArray) true _ ?side1 ?side2 A8.out).mono ?_); (case side1 => repeat (first | exact (Kd.zaw HO145.out).2.2 | (with_reducible refine Kd.zaM ?_ _) | (with_reducible refine Kd.zaN ?_ _) | (with_reducible refine Kd.zaW ?_))); (case side2 => exact (Kd.zaw HO145.out).2.1); rintro e w13 ⟨rfl, hb⟩; have n0_ := zaa.mk (Kd.zaG (by (with_reducible repeat (first | apply Kd.zax | apply Kd.zay | apply Kd.zaC)); exact HO145.out) hb); have n1_ := zaa.mk (zaq (by repeat (first | (with_reducible first | exact HB.out | apply zad | apply zac | apply zae) | exact HB.out)) hb); clear HO145; clear HB; have HO145 := n0_; have HB := n1_; clear n0_ n1_; (try clear hb); (try clear hb2); (try clear hk); (try clear hi)))
     go_meet
     case rel => exact ⟨_, (false), (by first | rfl | (simp; done) | (simp [*]; done)), H', ⟨by first | omega | exact Nat.le_refl _⟩, ⟨by (with_reducible repeat (first | apply Kd.zax | apply Kd.zay | apply Kd.zaC)); exact HO145.out⟩, ⟨by repeat (first | (with_reducible first | exact HB.out | apply zad | apply zac | apply zae) | exact HB.out)⟩⟩
    ·
     replace c9 := Bool.eq_false_iff.mpr c9
     subst c9
     have H1 : ((zan.f k t143 (⟨#[89]⟩ : ByteArray) (⟨#[89]⟩ : ByteArray)).bind fun t149 => (zab.j0 k t143 (!t149))) = some r := by rw [if_neg (show ¬ (false = true) by decide)] at H; exact H
     clear H
     have H := H1
     clear H1
     replace H := Option.bind_eq_some_iff.mp H
     obtain ⟨t149, A140, H⟩ := H
     replace H : (zab.j0 k t143 (!t149)) = some r := H
     have A14 := zaa.mk A140
     clear A140
     have H' := zaa.mk H
     clear H
     obtain ⟨Ao15, co15, eo15⟩ := Kd.zaZ HO145.out
     subst eo15
     have Tk1_ := zaa.mk True.intro
     have Tk2_ := zaa.mk True.intro
     have Tk3_ := zaa.mk True.intro
     go_wp2_with (first | ((with_reducible refine zaO (f := 8) rfl ?_); refine zbj (some 6) rfl rfl Tryd.func8 k9 rfl #[.slice Ao15 t143.length co15, .string (⟨#[65]⟩ : ByteArray), .string (⟨#[65]⟩ : ByteArray)] rfl m9 ?_; (with_reducible refine (zan.calls k _ _ t143 (⟨#[65]⟩ : ByteArray) (⟨#[65]⟩ : ByteArray) true _ ?side1 ?side2 A4.out).mono ?_); (case side1 => repeat (first | exact (Kd.zaw HO145.out).2.2 | (with_reducible refine Kd.zaM ?_ _) | (with_reducible refine Kd.zaN ?_ _) | (with_reducible refine Kd.zaW ?_))); (case side2 => exact (Kd.zaw HO145.out).2.1); rintro e w16 ⟨rfl, hb⟩; refine ⟨_, rfl, ?_⟩; have n0_ := zaa.mk (Kd.zaG (by (with_reducible repeat (first | apply Kd.zax | apply Kd.zay | apply Kd.zaC)); exact HO145.out) hb); have n1_ := zaa.mk (zaq (by repeat (first | (with_reducible first | exact HB.out | apply zad | apply zac | apply zae) | exact HB.out)) hb); clear HO145; clear HB; have HO145 := n0_; have HB := n1_; clear n0_ n1_; (try clear hb); (try clear hb2); (try clear hk); (try clear hi)) | (clear Tk1_; go_at_call 8; (with_reducible refine (zan.calls k _ _ t143 (⟨#[105, 110, 116]⟩ : ByteArray) (⟨#[105, 110, 116]⟩ : ByteArray) true _ ?side1 ?side2 A6.out).mono ?_); (case side1 => repeat (first | exact (Kd.zaw HO145.out).2.2 | (with_reducible refine Kd.zaM ?_ _) | (with_reducible refine Kd.zaN ?_ _) | (with_reducible refine Kd.zaW ?_))); (case side2 => exact (Kd.zaw HO145.out).2.1); rintro e w17 ⟨rfl, hb⟩; have n0_ := zaa.mk (Kd.zaG (by (with_reducible repeat (first | apply Kd.zax | apply Kd.zay | apply Kd.zaC)); exact HO145.out) hb); have n1_ := zaa.mk (zaq (by repeat (first | (with_reducible first | exact HB.out | apply zad | apply zac | apply zae) | exact HB.out)) hb); clear HO145; clear HB; have HO145 := n0_; have HB := n1_; clear n0_ n1_; (try clear hb); (try clear hb2); (try clear hk); (try clear hi)) | (clear Tk2_; go_at_call 8; (with_reducible refine (zan.calls k _ _ t143 (⟨#[65]⟩ : ByteArray) (⟨#[63]⟩ : ByteArray) false _ ?side1 ?side2 A8.out).mono ?_); (case side1 => repeat (first | exact (Kd.zaw HO145.out).2.2 | (with_reducible refine Kd.zaM ?_ _) | (with_reducible refine Kd.zaN ?_ _) | (with_reducible refine Kd.zaW ?_))); (case side2 => exact (Kd.zaw HO145.out).2.1); rintro e w18 ⟨rfl, hb⟩; have n0_ := zaa.mk (Kd.zaG (by (with_reducible repeat (first | apply Kd.zax | apply Kd.zay | apply Kd.zaC)); exact HO145.out) hb); have n1_ := zaa.mk (zaq (by repeat (first | (with_reducible first | exact HB.out | apply zad | apply zac | apply zae) | exact HB.out)) hb); clear HO145; clear HB; have HO145 := n0_; have HB := n1_; clear n0_ n1_; (try clear hb); (try clear hb2); (try clear hk); (try clear hi)) | (clear Tk3_; go_at_call 8; (with_reducible refine (zan.calls k _ _ t143 (⟨#[89]⟩ : ByteArray) (⟨#[89]⟩ : ByteArray) t149 _ ?side1 ?side2 A14.out).mono ?_); (case side1 => repeat (first | exact (Kd.zaw HO145.out).2.2 | (with_reducible refine Kd.zaM ?_ _) | (with_reducible refine Kd.zaN ?_ _) | (with_reducible refine Kd.zaW ?_))); (case side2 => exact (Kd.zaw HO145.out).2.1); rintro e w19 ⟨rfl, hb⟩; have n0_ := zaa.mk (Kd.zaG (by (with_reducible repeat (first | apply Kd.zax | apply Kd.zay | apply Kd.zaC)); exact HO145.out) hb); have n1_ := zaa.mk (zaq (by repeat (first | (with_reducible first | exact HB.out | apply zad | apply zac | apply zae) | exact HB.out)) hb); clear HO145; clear HB; have HO145 := n0_; have HB := n1_; clear n0_ n1_; (try clear hb); (try clear hb2); (try clear hk); (try clear hi)))
     go_meet
     case rel => exact ⟨_, (!t149), (by first | rfl | (simp; done) | (simp [*]; done)), H', ⟨by first | omega | exact Nat.le_refl _⟩, ⟨by (with_reducible repeat (first | apply Kd.zax | apply Kd.zay | apply Kd.zaC)); exact HO145.out⟩, ⟨by repeat (first | (with_reducible first | exact HB.out | apply zad | apply zac | apply zae) | exact HB.out)⟩⟩
   ·
    replace c7 := Bool.eq_false_iff.mpr c7
    subst c7
    have H1 : (zab.j0 k t143 false) = some r := by rw [if_neg (show ¬ (false = true) by decide)] at H; exact H
    clear H
    have H := H1
    clear H1
    have H' := zaa.mk H
    clear H
    obtain ⟨Ao20, co20, eo20⟩ := Kd.zaZ HO145.out
    subst eo20
    go_wp2_with (first | ((with_reducible refine zaO (f := 8) rfl ?_); refine zbj (some 6) rfl rfl Tryd.func8 k9 rfl #[.slice Ao20 t143.length co20, .string (⟨#[65]⟩ : ByteArray), .string (⟨#[65]⟩ : ByteArray)] rfl m9 ?_; (with_reducible refine (zan.calls k _ _ t143 (⟨#[65]⟩ : ByteArray) (⟨#[65]⟩ : ByteArray) true _ ?side1 ?side2 A4.out).mono ?_); (case side1 => repeat (first | exact (Kd.zaw HO145.out).2.2 | (with_reducible refine Kd.zaM ?_ _) | (with_reducible refine Kd.zaN ?_ _) | (with_reducible refine Kd.zaW ?_))); (case side2 => exact (Kd.zaw HO145.out).2.1); rintro e w21 ⟨rfl, hb⟩; refine ⟨_, rfl, ?_⟩; have n0_ := zaa.mk (Kd.zaG (by (with_reducible repeat (first | apply Kd.zax | apply Kd.zay | apply Kd.zaC)); exact HO145.out) hb); have n1_ := zaa.mk (zaq (by repeat (first | (with_reducible first | exact HB.out | apply zad | apply zac | apply zae) | exact HB.out)) hb); clear HO145; clear HB; have HO145 := n0_; have HB := n1_; clear n0_ n1_; (try clear hb); (try clear hb2); (try clear hk); (try clear hi)) | (go_at_call 8; (with_reducible refine (zan.calls k _ _ t143 (⟨#[105, 110, 116]⟩ : ByteArray) (⟨#[105, 110, 116]⟩ : ByteArray) false _ ?side1 ?side2 A6.out).mono ?_); (case side1 => repeat (first | exact (Kd.zaw HO145.out).2.2 | (with_reducible refine Kd.zaM ?_ _) | (with_reducible refine Kd.zaN ?_ _) | (with_reducible refine Kd.zaW ?_))); (case side2 => exact (Kd.zaw HO145.out).2.1); rintro e w22 ⟨rfl, hb⟩; have n0_ := zaa.mk (Kd.zaG (by (with_reducible repeat (first | apply Kd.zax | apply Kd.zay | apply Kd.zaC)); exact HO145.out) hb); have n1_ := zaa.mk (zaq (by repeat (first | (with_reducible first | exact HB.out | apply zad | apply zac | apply zae) | exact HB.out)) hb); clear HO145; clear HB; have HO145 := n0_; have HB := n1_; clear n0_ n1_; (try clear hb); (try clear hb2); (try clear hk); (try clear hi)))
    go_meet
    case rel => exact ⟨_, (false), (by first | rfl | (simp; done) | (simp [*]; done)), H', ⟨by first | omega | exact Nat.le_refl _⟩, ⟨by (with_reducible repeat (first | apply Kd.zax | apply Kd.zay | apply Kd.zaC)); exact HO145.out⟩, ⟨by repeat (first | (with_reducible first | exact HB.out | apply zad | apply zac | apply zae) | exact HB.out)⟩⟩
  ·
   replace c5 := Bool.eq_false_iff.mpr c5
   subst c5
   have H1 : (zab.j0 k t143 false) = some r := by rw [if_neg (show ¬ (false = true) by decide)] at H; exact H
   clear H
   have H := H1
   clear H1
   have H' := zaa.mk H
   clear H
   obtain ⟨Ao23, co23, eo23⟩ := Kd.zaZ HO145.out
   subst eo23
   go_wp2_with (first | ((with_reducible refine zaO (f := 8) rfl ?_); refine zbj (some 6) rfl rfl Tryd.func8 k9 rfl #[.slice Ao23 t143.length co23, .string (⟨#[65]⟩ : ByteArray), .string (⟨#[65]⟩ : ByteArray)] rfl m9 ?_; (with_reducible refine (zan.calls k _ _ t143 (⟨#[65]⟩ : ByteArray) (⟨#[65]⟩ : ByteArray) false _ ?side1 ?side2 A4.out).mono ?_); (case side1 => repeat (first | exact (Kd.zaw HO145.out).2.2 | (with_reducible refine Kd.zaM ?_ _) | (with_reducible refine Kd.zaN ?_ _) | (with_reducible refine Kd.zaW ?_))); (case side2 => exact (Kd.zaw HO145.out).2.1); rintro e w24 ⟨rfl, hb⟩; refine ⟨_, rfl, ?_⟩; have n0_ := zaa.mk (Kd.zaG (by (with_reducible repeat (first | apply Kd.zax | apply Kd.zay | apply Kd.zaC)); exact HO145.out) hb); have n1_ := zaa.mk (zaq (by repeat (first | (with_reducible first | exact HB.out | apply zad | apply zac | apply zae) | exact HB.out)) hb); clear HO145; clear HB; have HO145 := n0_; have HB := n1_; clear n0_ n1_; (try clear hb); (try clear hb2); (try clear hk); (try clear hi)))
   go_meet
   case rel => exact ⟨_, (false), (by first | rfl | (simp; done) | (simp [*]; done)), H', ⟨by first | omega | exact Nat.le_refl _⟩, ⟨by (with_reducible repeat (first | apply Kd.zax | apply Kd.zay | apply Kd.zaC)); exact HO145.out⟩, ⟨by repeat (first | (with_reducible first | exact HB.out | apply zad | apply zac | apply zae) | exact HB.out)⟩⟩
 case rest =>
  clear HC2
  try clear p2
  try clear c3
  try clear c5
  try clear c7
  try clear c8
  try clear c9
  obtain ⟨kq, x2_1, rfl, HA, HJ1, HO_1, HB⟩ := hcut
  cases kq with
  | zero => exact absurd HA.out (by simp [zab.j0])
  | succ kj1 =>
   have H := HA.out
   clear HA
   simp only [zab.j0] at H
   have HC25 := zaa.mk H
   clear H
   go_upto_region 3 with (fail)
   go_cut [3] (fun v3 wc => ∃ (kq : Nat) (x3_24 : Bool), v3 = .bool x3_24 ∧ zaa (zab.j1 kq t143 x2_1 x3_24 = some r) ∧ zaa (kq ≤ kj1) ∧ zaa (Kd.R k44 44 wc w.heap.size (fun _ => True) v144 t143) ∧ zaa (Below w.heap.size w wc))
   case first =>
    have H := HC25.out
    clear HC25
    replace H := Option.bind_eq_some_iff.mp H
    obtain ⟨t150, A260, H⟩ := H
    replace H : (if t150 = true then ((zah.f kj1 t143 (⟨#[68]⟩ : ByteArray) (⟨#[66]⟩ : ByteArray) (⟨#[66]⟩ : ByteArray) true).bind fun t151 => (if t151 = true then ((zah.f kj1 t143 (⟨#[65]⟩ : ByteArray) (⟨#[88]⟩ : ByteArray) (⟨#[]⟩ : ByteArray) false).bind fun t152 => (if t152 = true then ((zah.f kj1 t143 (⟨#[105, 110, 116]⟩ : ByteArray) (⟨#[105, 110, 116]⟩ : ByteArray) (⟨#[105, 110, 116]⟩ : ByteArray) true).bind fun t153 => (if t153 = true then ((zah.f kj1 t143 (⟨#[105, 110, 116]⟩ : ByteArray) (⟨#[63]⟩ : ByteArray) (⟨#[]⟩ : ByteArray) false).bind fun t154 => (if t154 = true then ((zah.f kj1 t143 (⟨#[63]⟩ : ByteArray) (⟨#[63]⟩ : ByteArray) (⟨#[63]⟩ : ByteArray) true).bind fun t155 => (zab.j1 kj1 t143 x2_1 t155)) else (zab.j1 kj1 t143 x2_1 false))) else (zab.j1 kj1 t143 x2_1 false))) else (zab.j1 kj1 t143 x2_1 false))) else (zab.j1 kj1 t143 x2_1 false))) else (zab.j1 kj1 t143 x2_1 false)) = some r := H
    have A26 := zaa.mk A260
    clear A260
    by_cases c27 : t150 = true
    ·
     subst c27
     have H1 : ((zah.f kj1 t143 (⟨#[68]⟩ : ByteArray) (⟨#[66]⟩ : ByteArray) (⟨#[66]⟩ : ByteArray) true).bind fun t151 => (if t151 = true then ((zah.f kj1 t143 (⟨#[65]⟩ : ByteArray) (⟨#[88]⟩ : ByteArray) (⟨#[]⟩ : ByteArray) false).bind fun t152 => (if t152 = true then ((zah.f kj1 t143 (⟨#[105, 110, 116]⟩ : ByteArray) (⟨#[105, 110, 116]⟩ : ByteArray) (⟨#[105, 110, 116]⟩ : ByteArray) true).bind fun t153 => (if t153 = true then ((zah.f kj1 t143 (⟨#[105, 110, 116]⟩ : ByteArray) (⟨#[63]⟩ : ByteArray) (⟨#[]⟩ : ByteArray) false).bind fun t154 => (if t154 = true then ((zah.f kj1 t143 (⟨#[63]⟩ : ByteArray) (⟨#[63]⟩ : ByteArray) (⟨#[63]⟩ : ByteArray) true).bind fun t155 => (zab.j1 kj1 t143 x2_1 t155)) else (zab.j1 kj1 t143 x2_1 false))) else (zab.j1 kj1 t143 x2_1 false))) else (zab.j1 kj1 t143 x2_1 false))) else (zab.j1 kj1 t143 x2_1 false))) = some r := by rw [if_pos rfl] at H; exact H
     clear H
     have H := H1
     clear H1
     replace H := Option.bind_eq_some_iff.mp H
     obtain ⟨t151, A280, H⟩ := H
     replace H : (if t151 = true then ((zah.f kj1 t143 (⟨#[65]⟩ : ByteArray) (⟨#[88]⟩ : ByteArray) (⟨#[]⟩ : ByteArray) false).bind fun t152 => (if t152 = true then ((zah.f kj1 t143 (⟨#[105, 110, 116]⟩ : ByteArray) (⟨#[105, 110, 116]⟩ : ByteArray) (⟨#[105, 110, 116]⟩ : ByteArray) true).bind fun t153 => (if t153 = true then ((zah.f kj1 t143 (⟨#[105, 110, 116]⟩ : ByteArray) (⟨#[63]⟩ : ByteArray) (⟨#[]⟩ : ByteArray) false).bind fun t154 => (if t154 = true then ((zah.f kj1 t143 (⟨#[63]⟩ : ByteArray) (⟨#[63]⟩ : ByteArray) (⟨#[63]⟩ : ByteArray) true).bind fun t155 => (zab.j1 kj1 t143 x2_1 t155)) else (zab.j1 kj1 t143 x2_1 false))) else (zab.j1 kj1 t143 x2_1 false))) else (zab.j1 kj1 t143 x2_1 false))) else (zab.j1 kj1 t143 x2_1 false)) = some r := H
     have A28 := zaa.mk A280
     clear A280
     by_cases c29 : t151 = true
     ·
      subst c29
      have H1 : ((zah.f kj1 t143 (⟨#[65]⟩ : ByteArray) (⟨#[88]⟩ : ByteArray) (⟨#[]⟩ : ByteArray) false).bind fun t152 => (if t152 = true then ((zah.f kj1 t143 (⟨#[105, 110, 116]⟩ : ByteArray) (⟨#[105, 110, 116]⟩ : ByteArray) (⟨#[105, 110, 116]⟩ : ByteArray) true).bind fun t153 => (if t153 = true then ((zah.f kj1 t143 (⟨#[105, 110, 116]⟩ : ByteArray) (⟨#[63]⟩ : ByteArray) (⟨#[]⟩ : ByteArray) false).bind fun t154 => (if t154 = true then ((zah.f kj1 t143 (⟨#[63]⟩ : ByteArray) (⟨#[63]⟩ : ByteArray) (⟨#[63]⟩ : ByteArray) true).bind fun t155 => (zab.j1 kj1 t143 x2_1 t155)) else (zab.j1 kj1 t143 x2_1 false))) else (zab.j1 kj1 t143 x2_1 false))) else (zab.j1 kj1 t143 x2_1 false))) = some r := by rw [if_pos rfl] at H; exact H
      clear H
      have H := H1
      clear H1
      replace H := Option.bind_eq_some_iff.mp H
      obtain ⟨t152, A300, H⟩ := H
      replace H : (if t152 = true then ((zah.f kj1 t143 (⟨#[105, 110, 116]⟩ : ByteArray) (⟨#[105, 110, 116]⟩ : ByteArray) (⟨#[105, 110, 116]⟩ : ByteArray) true).bind fun t153 => (if t153 = true then ((zah.f kj1 t143 (⟨#[105, 110, 116]⟩ : ByteArray) (⟨#[63]⟩ : ByteArray) (⟨#[]⟩ : ByteArray) false).bind fun t154 => (if t154 = true then ((zah.f kj1 t143 (⟨#[63]⟩ : ByteArray) (⟨#[63]⟩ : ByteArray) (⟨#[63]⟩ : ByteArray) true).bind fun t155 => (zab.j1 kj1 t143 x2_1 t155)) else (zab.j1 kj1 t143 x2_1 false))) else (zab.j1 kj1 t143 x2_1 false))) else (zab.j1 kj1 t143 x2_1 false)) = some r := H
      have A30 := zaa.mk A300
      clear A300
      by_cases c31 : t152 = true
      ·
       subst c31
       have H1 : ((zah.f kj1 t143 (⟨#[105, 110, 116]⟩ : ByteArray) (⟨#[105, 110, 116]⟩ : ByteArray) (⟨#[105, 110, 116]⟩ : ByteArray) true).bind fun t153 => (if t153 = true then ((zah.f kj1 t143 (⟨#[105, 110, 116]⟩ : ByteArray) (⟨#[63]⟩ : ByteArray) (⟨#[]⟩ : ByteArray) false).bind fun t154 => (if t154 = true then ((zah.f kj1 t143 (⟨#[63]⟩ : ByteArray) (⟨#[63]⟩ : ByteArray) (⟨#[63]⟩ : ByteArray) true).bind fun t155 => (zab.j1 kj1 t143 x2_1 t155)) else (zab.j1 kj1 t143 x2_1 false))) else (zab.j1 kj1 t143 x2_1 false))) = some r := by rw [if_pos rfl] at H; exact H
       clear H
       have H := H1
       clear H1
       replace H := Option.bind_eq_some_iff.mp H
       obtain ⟨t153, A320, H⟩ := H
       replace H : (if t153 = true then ((zah.f kj1 t143 (⟨#[105, 110, 116]⟩ : ByteArray) (⟨#[63]⟩ : ByteArray) (⟨#[]⟩ : ByteArray) false).bind fun t154 => (if t154 = true then ((zah.f kj1 t143 (⟨#[63]⟩ : ByteArray) (⟨#[63]⟩ : ByteArray) (⟨#[63]⟩ : ByteArray) true).bind fun t155 => (zab.j1 kj1 t143 x2_1 t155)) else (zab.j1 kj1 t143 x2_1 false))) else (zab.j1 kj1 t143 x2_1 false)) = some r := H
       have A32 := zaa.mk A320
       clear A320
       by_cases c33 : t153 = true
       ·
        subst c33
        have H1 : ((zah.f kj1 t143 (⟨#[105, 110, 116]⟩ : ByteArray) (⟨#[63]⟩ : ByteArray) (⟨#[]⟩ : ByteArray) false).bind fun t154 => (if t154 = true then ((zah.f kj1 t143 (⟨#[63]⟩ : ByteArray) (⟨#[63]⟩ : ByteArray) (⟨#[63]⟩ : ByteArray) true).bind fun t155 => (zab.j1 kj1 t143 x2_1 t155)) else (zab.j1 kj1 t143 x2_1 false))) = some r := by rw [if_pos rfl] at H; exact H
        clear H
        have H := H1
        clear H1
        replace H := Option.bind_eq_some_iff.mp H
        obtain ⟨t154, A340, H⟩ := H
        replace H : (if t154 = true then ((zah.f kj1 t143 (⟨#[63]⟩ : ByteArray) (⟨#[63]⟩ : ByteArray) (⟨#[63]⟩ : ByteArray) true).bind fun t155 => (zab.j1 kj1 t143 x2_1 t155)) else (zab.j1 kj1 t143 x2_1 false)) = some r := H
        have A34 := zaa.mk A340
        clear A340
        by_cases c35 : t154 = true
        ·
         subst c35
         have H1 : ((zah.f kj1 t143 (⟨#[63]⟩ : ByteArray) (⟨#[63]⟩ : ByteArray) (⟨#[63]⟩ : ByteArray) true).bind fun t155 => (zab.j1 kj1 t143 x2_1 t155)) = some r := by rw [if_pos rfl] at H; exact H
         clear H
         have H := H1
         clear H1
         replace H := Option.bind_eq_some_iff.mp H
         obtain ⟨t155, A360, H⟩ := H
         replace H : (zab.j1 kj1 t143 x2_1 t155) = some r := H
         have A36 := zaa.mk A360
         clear A360
         have H' := zaa.mk H
         clear H
         obtain ⟨Ao37, co37, eo37⟩ := Kd.zaZ HO_1.out
         subst eo37
         have Tk1_ := zaa.mk True.intro
         have Tk2_ := zaa.mk True.intro
         have Tk3_ := zaa.mk True.intro
         have Tk4_ := zaa.mk True.intro
         have Tk5_ := zaa.mk True.intro
         go_wp2_with (first | ((with_reducible refine zaO (f := 9) rfl ?_); refine zbj (some 22) rfl rfl Tryd.func9 k9 rfl #[.slice Ao37 t143.length co37, .string (⟨#[67]⟩ : ByteArray), .string (⟨#[68]⟩ : ByteArray), .string (⟨#[65]⟩ : ByteArray), .bool true] rfl m9 ?_; (with_reducible refine (zah.calls kj1 _ _ t143 (⟨#[67]⟩ : ByteArray) (⟨#[68]⟩ : ByteArray) (⟨#[65]⟩ : ByteArray) true true _ ?side1 ?side2 A26.out).mono ?_); (case side1 => repeat (first | exact (Kd.zaw HO_1.out).2.2 | (with_reducible refine Kd.zaM ?_ _) | (with_reducible refine Kd.zaN ?_ _) | (with_reducible refine Kd.zaW ?_))); (case side2 => exact (Kd.zaw HO_1.out).2.1); rintro e w38 ⟨rfl, hb⟩; refine ⟨_, rfl, ?_⟩; have n0_ := zaa.mk (Kd.zaG (by (with_reducible repeat (first | apply Kd.zax | apply Kd.zay | apply Kd.zaC)); exact HO_1.out) hb); have n1_ := zaa.mk (zaq (by repeat (first | (with_reducible first | exact HB.out | apply zad | apply zac | apply zae) | exact HB.out)) hb); clear HO_1; clear HB; have HO_1 := n0_; have HB := n1_; clear n0_ n1_; (try clear hb); (try clear hb2); (try clear hk); (try clear hi)) | (clear Tk1_; go_at_call 9; (with_reducible refine (zah.calls kj1 _ _ t143 (⟨#[68]⟩ : ByteArray) (⟨#[66]⟩ : ByteArray) (⟨#[66]⟩ : ByteArray) true true _ ?side1 ?side2 A28.out).mono ?_); (case side1 => repeat (first | exact (Kd.zaw HO_1.out).2.2 | (with_reducible refine Kd.zaM ?_ _) | (with_reducible refine Kd.zaN ?_ _) | (with_reducible refine Kd.zaW ?_))); (case side2 => exact (Kd.zaw HO_1.out).2.1); rintro e w39 ⟨rfl, hb⟩; have n0_ := zaa.mk (Kd.zaG (by (with_reducible repeat (first | apply Kd.zax | apply Kd.zay | apply Kd.zaC)); exact HO_1.out) hb); have n1_ := zaa.mk (zaq (by repeat (first | (with_reducible first | exact HB.out | apply zad | apply zac | apply zae) | exact HB.out)) hb); clear HO_1; clear HB; have HO_1 := n0_; have HB := n1_; clear n0_ n1_; (try clear hb); (try clear hb2); (try clear hk); (try clear hi)) | (clear Tk2_; go_at_call 9; (with_reducible refine (zah.calls kj1 _ _ t143 (⟨#[65]⟩ : ByteArray) (⟨#[88]⟩ : ByteArray) (⟨#[]⟩ : ByteArray) false true _ ?side1 ?side2 A30.out).mono ?_); (case side1 => repeat (first | exact (Kd.zaw HO_1.out).2.2 | (with_reducible refine Kd.zaM ?_ _) | (with_reducible refine Kd.zaN ?_ _) | (with_reducible refine Kd.zaW ?_))); (case side2 => exact (Kd.zaw HO_1.out).2.1); rintro e w40 ⟨rfl, hb⟩; have n0_ := zaa.mk (Kd.zaG (by (with_reducible repeat (first | apply Kd.zax | apply Kd.zay | apply Kd.zaC)); exact HO_1.out) hb); have n1_ := zaa.mk (zaq (by repeat (first | (with_reducible first | exact HB.out | apply zad | apply zac | apply zae) | exact HB.out)) hb); clear HO_1; clear HB; have HO_1 := n0_; have HB := n1_; clear n0_ n1_; (try clear hb); (try clear hb2); (try clear hk); (try clear hi)) | (clear Tk3_; go_at_call 9; (with_reducible refine (zah.calls kj1 _ _ t143 (⟨#[105, 110, 116]⟩ : ByteArray) (⟨#[105, 110, 116]⟩ : ByteArray) (⟨#[105, 110, 116]⟩ : ByteArray) true true _ ?side1 ?side2 A32.out).mono ?_); (case side1 => repeat (first | exact (Kd.zaw HO_1.out).2.2 | (with_reducible refine Kd.zaM ?_ _) | (with_reducible refine Kd.zaN ?_ _) | (with_reducible refine Kd.zaW ?_))); (case side2 => exact (Kd.zaw HO_1.out).2.1); rintro e w41 ⟨rfl, hb⟩; have n0_ := zaa.mk (Kd.zaG (by (with_reducible repeat (first | apply Kd.zax | apply Kd.zay | apply Kd.zaC)); exact HO_1.out) hb); have n1_ := zaa.mk (zaq (by repeat (first | (with_reducible first | exact HB.out | apply zad | apply zac | apply zae) | exact HB.out)) hb); clear HO_1; clear HB; have HO_1 := n0_; have HB := n1_; clear n0_ n1_; (try clear hb); (try clear hb2); (try clear hk); (try clear hi)) | (clear Tk4_; go_at_call 9; (with_reducible refine (zah.calls kj1 _ _ t143 (⟨#[105, 110, 116]⟩ : ByteArray) (⟨#[63]⟩ : ByteArray) (⟨#[]⟩ : ByteArray) false true _ ?side1 ?side2 A34.out).mono ?_); (case side1 => repeat (first | exact (Kd.zaw HO_1.out).2.2 | (with_reducible refine Kd.zaM ?_ _) | (with_reducible refine Kd.zaN ?_ _) | (with_reducible refine Kd.zaW ?_))); (case side2 => exact (Kd.zaw HO_1.out).2.1); rintro e w42 ⟨rfl, hb⟩; have n0_ := zaa.mk (Kd.zaG (by (with_reducible repeat (first | apply Kd.zax | apply Kd.zay | apply Kd.zaC)); exact HO_1.out) hb); have n1_ := zaa.mk (zaq (by repeat (first | (with_reducible first | exact HB.out | apply zad | apply zac | apply zae) | exact HB.out)) hb); clear HO_1; clear HB; have HO_1 := n0_; have HB := n1_; clear n0_ n1_; (try clear hb); (try clear hb2); (try clear hk); (try clear hi)) | (clear Tk5_; go_at_call 9; (with_reducible refine (zah.calls kj1 _ _ t143 (⟨#[63]⟩ : ByteArray) (⟨#[63]⟩ : ByteArray) (⟨#[63]⟩ : ByteArray) true t155 _ ?side1 ?side2 A36.out).mono ?_); (case side1 => repeat (first | exact (Kd.zaw HO_1.out).2.2 | (with_reducible refine Kd.zaM ?_ _) | (with_reducible refine Kd.zaN ?_ _) | (with_reducible refine Kd.zaW ?_))); (case side2 => exact (Kd.zaw HO_1.out).2.1); rintro e w43 ⟨rfl, hb⟩; have n0_ := zaa.mk (Kd.zaG (by (with_reducible repeat (first | apply Kd.zax | apply Kd.zay | apply Kd.zaC)); exact HO_1.out) hb); have n1_ := zaa.mk (zaq (by repeat (first | (with_reducible first | exact HB.out | apply zad | apply zac | apply zae) | exact HB.out)) hb); clear HO_1; clear HB; have HO_1 := n0_; have HB := n1_; clear n0_ n1_; (try clear hb); (try clear hb2); (try clear hk); (try clear hi)))
         go_meet
         case rel => exact ⟨_, (t155), (by first | rfl | (simp; done) | (simp [*]; done)), H', ⟨by have := HJ1.out; first | omega | exact Nat.le_refl _⟩, ⟨by (with_reducible repeat (first | apply Kd.zax | apply Kd.zay | apply Kd.zaC)); exact HO_1.out⟩, ⟨by repeat (first | (with_reducible first | exact HB.out | apply zad | apply zac | apply zae) | exact HB.out)⟩⟩
        ·
         replace c35 := Bool.eq_false_iff.mpr c35
         subst c35
         have H1 : (zab.j1 kj1 t143 x2_1 false) = some r := by rw [if_neg (show ¬ (false = true) by decide)] at H; exact H
         clear H
         have H := H1
         clear H1
         have H' := zaa.mk H
         clear H
         obtain ⟨Ao44, co44, eo44⟩ := Kd.zaZ HO_1.out
         subst eo44
         have Tk1_ := zaa.mk True.intro
         have Tk2_ := zaa.mk True.intro
         have Tk3_ := zaa.mk True.intro
         have Tk4_ := zaa.mk True.intro
         go_wp2_with (first | ((with_reducible refine zaO (f := 9) rfl ?_); refine zbj (some 22) rfl rfl Tryd.func9 k9 rfl #[.slice Ao44 t143.length co44, .string (⟨#[67]⟩ : ByteArray), .string (⟨#[68]⟩ : ByteArray), .string (⟨#[65]⟩ : ByteArray), .bool true] rfl m9 ?_; (with_reducible refine (zah.calls kj1 _ _ t143 (⟨#[67]⟩ : ByteArray) (⟨#[68]⟩ : ByteArray) (⟨#[65]⟩ : ByteArray) true true _ ?side1 ?side2 A26.out).mono ?_); (case side1 => repeat (first | exact (Kd.zaw HO_1.out).2.2 | (with_reducible refine Kd.zaM ?_ _) | (with_reducible refine Kd.zaN ?_ _) | (with_reducible refine Kd.zaW ?_))); (case side2 => exact (Kd.zaw HO_1.out).2.1); rintro e w45 ⟨rfl, hb⟩; refine ⟨_, rfl, ?_⟩; have n0_ := zaa.mk (Kd.zaG (by (with_reducible repeat (first | apply Kd.zax | apply Kd.zay | apply Kd.zaC)); exact HO_1.out) hb); have n1_ := zaa.mk (zaq (by repeat (first | (with_reducible first | exact HB.out | apply zad | apply zac | apply zae) | exact HB.out)) hb); clear HO_1; clear HB; have HO_1 := n0_; have HB := n1_; clear n0_ n1_; (try clear hb); (try clear hb2); (try clear hk); (try clear hi)) | (clear Tk1_; go_at_call 9; (with_reducible refine (zah.calls kj1 _ _ t143 (⟨#[68]⟩ : ByteArray) (⟨#[66]⟩ : ByteArray) (⟨#[66]⟩ : ByteArray) true true _ ?side1 ?side2 A28.out).mono ?_); (case side1 => repeat (first | exact (Kd.zaw HO_1.out).2.2 | (with_reducible refine Kd.zaM ?_ _) | (with_reducible refine Kd.zaN ?_ _) | (with_reducible refine Kd.zaW ?_))); (case side2 => exact (Kd.zaw HO_1.out).2.1); rintro e w46 ⟨rfl, hb⟩; have n0_ := zaa.mk (Kd.zaG (by (with_reducible repeat (first | apply Kd.zax | apply Kd.zay | apply Kd.zaC)); exact HO_1.out) hb); have n1_ := zaa.mk (zaq (by repeat (first | (with_reducible first | exact HB.out | apply zad | apply zac | apply zae) | exact HB.out)) hb); clear HO_1; clear HB; have HO_1 := n0_; have HB := n1_; clear n0_ n1_; (try clear hb); (try clear hb2); (try clear hk); (try clear hi)) | (clear Tk2_; go_at_call 9; (with_reducible refine (zah.calls kj1 _ _ t143 (⟨#[65]⟩ : ByteArray) (⟨#[88]⟩ : ByteArray) (⟨#[]⟩ : ByteArray) false true _ ?side1 ?side2 A30.out).mono ?_); (case side1 => repeat (first | exact (Kd.zaw HO_1.out).2.2 | (with_reducible refine Kd.zaM ?_ _) | (with_reducible refine Kd.zaN ?_ _) | (with_reducible refine Kd.zaW ?_))); (case side2 => exact (Kd.zaw HO_1.out).2.1); rintro e w47 ⟨rfl, hb⟩; have n0_ := zaa.mk (Kd.zaG (by (with_reducible repeat (first | apply Kd.zax | apply Kd.zay | apply Kd.zaC)); exact HO_1.out) hb); have n1_ := zaa.mk (zaq (by repeat (first | (with_reducible first | exact HB.out | apply zad | apply zac | apply zae) | exact HB.out)) hb); clear HO_1; clear HB; have HO_1 := n0_; have HB := n1_; clear n0_ n1_; (try clear hb); (try clear hb2); (try clear hk); (try clear hi)) | (clear Tk3_; go_at_call 9; (with_reducible refine (zah.calls kj1 _ _ t143 (⟨#[105, 110, 116]⟩ : ByteArray) (⟨#[105, 110, 116]⟩ : ByteArray) (⟨#[105, 110, 116]⟩ : ByteArray) true true _ ?side1 ?side2 A32.out).mono ?_); (case side1 => repeat (first | exact (Kd.zaw HO_1.out).2.2 | (with_reducible refine Kd.zaM ?_ _) | (with_reducible refine Kd.zaN ?_ _) | (with_reducible refine Kd.zaW ?_))); (case side2 => exact (Kd.zaw HO_1.out).2.1); rintro e w48 ⟨rfl, hb⟩; have n0_ := zaa.mk (Kd.zaG (by (with_reducible repeat (first | apply Kd.zax | apply Kd.zay | apply Kd.zaC)); exact HO_1.out) hb); have n1_ := zaa.mk (zaq (by repeat (first | (with_reducible first | exact HB.out | apply zad | apply zac | apply zae) | exact HB.out)) hb); clear HO_1; clear HB; have HO_1 := n0_; have HB := n1_; clear n0_ n1_; (try clear hb); (try clear hb2); (try clear hk); (try clear hi)) | (clear Tk4_; go_at_call 9; (with_reducible refine (zah.calls kj1 _ _ t143 (⟨#[105, 110, 116]⟩ : ByteArray) (⟨#[63]⟩ : ByteArray) (⟨#[]⟩ : ByteArray) false false _ ?side1 ?side2 A34.out).mono ?_); (case side1 => repeat (first | exact (Kd.zaw HO_1.out).2.2 | (with_reducible refine Kd.zaM ?_ _) | (with_reducible refine Kd.zaN ?_ _) | (with_reducible refine Kd.zaW ?_))); (case side2 => exact (Kd.zaw HO_1.out).2.1); rintro e w49 ⟨rfl, hb⟩; have n0_ := zaa.mk (Kd.zaG (by (with_reducible repeat (first | apply Kd.zax | apply Kd.zay | apply Kd.zaC)); exact HO_1.out) hb); have n1_ := zaa.mk (zaq (by repeat (first | (with_reducible first | exact HB.out | apply zad | apply zac | apply zae) | exact HB.out)) hb); clear HO_1; clear HB; have HO_1 := n0_; have HB := n1_; clear n0_ n1_; (try clear hb); (try clear hb2); (try clear hk); (try clear hi)))
         go_meet
         case rel => exact ⟨_, (false), (by first | rfl | (simp; done) | (simp [*]; done)), H', ⟨by have := HJ1.out; first | omega | exact Nat.le_refl _⟩, ⟨by (with_reducible repeat (first | apply Kd.zax | apply Kd.zay | apply Kd.zaC)); exact HO_1.out⟩, ⟨by repeat (first | (with_reducible first | exact HB.out | apply zad | apply zac | apply zae) | exact HB.out)⟩⟩
       ·
        replace c33 := Bool.eq_false_iff.mpr c33
        subst c33
        have H1 : (zab.j1 kj1 t143 x2_1 false) = some r := by rw [if_neg (show ¬ (false = true) by decide)] at H; exact H
        clear H
        have H := H1
        clear H1
        have H' := zaa.mk H
        clear H
        obtain ⟨Ao50, co50, eo50⟩ := Kd.zaZ HO_1.out
        subst eo50
        have Tk1_ := zaa.mk True.intro
        have Tk2_ := zaa.mk True.intro
        have Tk3_ := zaa.mk True.intro
        go_wp2_with (first | ((with_reducible refine zaO (f := 9) rfl ?_); refine zbj (some 22) rfl rfl Tryd.func9 k9 rfl #[.slice Ao50 t143.length co50, .string (⟨#[67]⟩ : ByteArray), .string (⟨#[68]⟩ : ByteArray), .string (⟨#[65]⟩ : ByteArray), .bool true] rfl m9 ?_; (with_reducible refine (zah.calls kj1 _ _ t143 (⟨#[67]⟩ : ByteArray) (⟨#[68]⟩ : ByteArray) (⟨#[65]⟩ : ByteArray) true true _ ?side1 ?side2 A26.out).mono ?_); (case side1 => repeat (first | exact (Kd.zaw HO_1.out).2.2 | (with_reducible refine Kd.zaM ?_ _) | (with_reducible refine Kd.zaN ?_ _) | (with_reducible refine Kd.zaW ?_))); (case side2 => exact (Kd.zaw HO_1.out).2.1); rintro e w51 ⟨rfl, hb⟩; refine ⟨_, rfl, ?_⟩; have n0_ := zaa.mk (Kd.zaG (by (with_reducible repeat (first | apply Kd.zax | apply Kd.zay | apply Kd.zaC)); exact HO_1.out) hb); have n1_ := zaa.mk (zaq (by repeat (first | (with_reducible first | exact HB.out | apply zad | apply zac | apply zae) | exact HB.out)) hb); clear HO_1; clear HB; have HO_1 := n0_; have HB := n1_; clear n0_ n1_; (try clear hb); (try clear hb2); (try clear hk); (try clear hi)) | (clear Tk1_; go_at_call 9; (with_reducible refine (zah.calls kj1 _ _ t143 (⟨#[68]⟩ : ByteArray) (⟨#[66]⟩ : ByteArray) (⟨#[66]⟩ : ByteArray) true true _ ?side1 ?side2 A28.out).mono ?_); (case side1 => repeat (first | exact (Kd.zaw HO_1.out).2.2 | (with_reducible refine Kd.zaM ?_ _) | (with_reducible refine Kd.zaN ?_ _) | (with_reducible refine Kd.zaW ?_))); (case side2 => exact (Kd.zaw HO_1.out).2.1); rintro e w52 ⟨rfl, hb⟩; have n0_ := zaa.mk (Kd.zaG (by (with_reducible repeat (first | apply Kd.zax | apply Kd.zay | apply Kd.zaC)); exact HO_1.out) hb); have n1_ := zaa.mk (zaq (by repeat (first | (with_reducible first | exact HB.out | apply zad | apply zac | apply zae) | exact HB.out)) hb); clear HO_1; clear HB; have HO_1 := n0_; have HB := n1_; clear n0_ n1_; (try clear hb); (try clear hb2); (try clear hk); (try clear hi)) | (clear Tk2_; go_at_call 9; (with_reducible refine (zah.calls kj1 _ _ t143 (⟨#[65]⟩ : ByteArray) (⟨#[88]⟩ : ByteArray) (⟨#[]⟩ : ByteArray) false true _ ?side1 ?side2 A30.out).mono ?_); (case side1 => repeat (first | exact (Kd.zaw HO_1.out).2.2 | (with_reducible refine Kd.zaM ?_ _) | (with_reducible refine Kd.zaN ?_ _) | (with_reducible refine Kd.zaW ?_))); (case side2 => exact (Kd.zaw HO_1.out).2.1); rintro e w53 ⟨rfl, hb⟩; have n0_ := zaa.mk (Kd.zaG (by (with_reducible repeat (first | apply Kd.zax | apply Kd.zay | apply Kd.zaC)); exact HO_1.out) hb); have n1_ := zaa.mk (zaq (by repeat (first | (with_reducible first | exact HB.out | apply zad | apply zac | apply zae) | exact HB.out)) hb); clear HO_1; clear HB; have HO_1 := n0_; have HB := n1_; clear n0_ n1_; (try clear hb); (try clear hb2); (try clear hk); (try clear hi)) | (clear Tk3_; go_at_call 9; (with_reducible refine (zah.calls kj1 _ _ t143 (⟨#[105, 110, 116]⟩ : ByteArray) (⟨#[105, 110, 116]⟩ : ByteArray) (⟨#[105, 110, 116]⟩ : ByteArray) true false _ ?side1 ?side2 A32.out).mono ?_); (case side1 => repeat (first | exact (Kd.zaw HO_1.out).2.2 | (with_reducible refine Kd.zaM ?_ _) | (with_reducible refine Kd.zaN ?_ _) | (with_reducible refine Kd.zaW ?_))); (case side2 => exact (Kd.zaw HO_1.out).2.1); rintro e w54 ⟨rfl, hb⟩; have n0_ := zaa.mk (Kd.zaG (by (with_reducible repeat (first | apply Kd.zax | apply Kd.zay | apply Kd.zaC)); exact HO_1.out) hb); have n1_ := zaa.mk (zaq (by repeat (first | (with_reducible first | exact HB.out | apply zad | apply zac | apply zae) | exact HB.out)) hb); clear HO_1; clear HB; have HO_1 := n0_; have HB := n1_; clear n0_ n1_; (try clear hb); (try clear hb2); (try clear hk); (try clear hi)))
        go_meet
        case rel => exact ⟨_, (false), (by first | rfl | (simp; done) | (simp [*]; done)), H', ⟨by have := HJ1.out; first | omega | exact Nat.le_refl _⟩, ⟨by (with_reducible repeat (first | apply Kd.zax | apply Kd.zay | apply Kd.zaC)); exact HO_1.out⟩, ⟨by repeat (first | (with_reducible first | exact HB.out | apply zad | apply zac | apply zae) | exact HB.out)⟩⟩
      ·
       replace c31 := Bool.eq_false_iff.mpr c31
       subst c31
       have H1 : (zab.j1 kj1 t143 x2_1 false) = some r := by rw [if_neg (show ¬ (false = true) by decide)] at H; exact H
       clear H
       have H := H1
       clear H1
       have H' := zaa.mk H
       clear H
       obtain ⟨Ao55, co55, eo55⟩ := Kd.zaZ HO_1.out
       subst eo55
       have Tk1_ := zaa.mk True.intro
       have Tk2_ := zaa.mk True.intro
       go_wp2_with (first | ((with_reducible refine zaO (f := 9) rfl ?_); refine zbj (some 22) rfl rfl Tryd.func9 k9 rfl #[.slice Ao55 t143.length co55, .string (⟨#[67]⟩ : ByteArray), .string (⟨#[68]⟩ : ByteArray), .string (⟨#[65]⟩ : ByteArray), .bool true] rfl m9 ?_; (with_reducible refine (zah.calls kj1 _ _ t143 (⟨#[67]⟩ : ByteArray) (⟨#[68]⟩ : ByteArray) (⟨#[65]⟩ : ByteArray) true true _ ?side1 ?side2 A26.out).mono ?_); (case side1 => repeat (first | exact (Kd.zaw HO_1.out).2.2 | (with_reducible refine Kd.zaM ?_ _) | (with_reducible refine Kd.zaN ?_ _) | (with_reducible refine Kd.zaW ?_))); (case side2 => exact (Kd.zaw HO_1.out).2.1); rintro e w56 ⟨rfl, hb⟩; refine ⟨_, rfl, ?_⟩; have n0_ := zaa.mk (Kd.zaG (by (with_reducible repeat (first | apply Kd.zax | apply Kd.zay | apply Kd.zaC)); exact HO_1.out) hb); have n1_ := zaa.mk (zaq (by repeat (first | (with_reducible first | exact HB.out | apply zad | apply zac | apply zae) | exact HB.out)) hb); clear HO_1; clear HB; have HO_1 := n0_; have HB := n1_; clear n0_ n1_; (try clear hb); (try clear hb2); (try clear hk); (try clear hi)) | (clear Tk1_; go_at_call 9; (with_reducible refine (zah.calls kj1 _ _ t143 (⟨#[68]⟩ : ByteArray) (⟨#[66]⟩ : ByteArray) (⟨#[66]⟩ : ByteArray) true true _ ?side1 ?side2 A28.out).mono ?_); (case side1 => repeat (first | exact (Kd.zaw HO_1.out).2.2 | (with_reducible refine Kd.zaM ?_ _) | (with_reducible refine Kd.zaN ?_ _) | (with_reducible refine Kd.zaW ?_))); (case side2 => exact (Kd.zaw HO_1.out).2.1); rintro e w57 ⟨rfl, hb⟩; have n0_ := zaa.mk (Kd.zaG (by (with_reducible repeat (first | apply Kd.zax | apply Kd.zay | apply Kd.zaC)); exact HO_1.out) hb); have n1_ := zaa.mk (zaq (by repeat (first | (with_reducible first | exact HB.out | apply zad | apply zac | apply zae) | exact HB.out)) hb); clear HO_1; clear HB; have HO_1 := n0_; have HB := n1_; clear n0_ n1_; (try clear hb); (try clear hb2); (try clear hk); (try clear hi)) | (clear Tk2_; go_at_call 9; (with_reducible refine (zah.calls kj1 _ _ t143 (⟨#[65]⟩ : ByteArray) (⟨#[88]⟩ : ByteArray) (⟨#[]⟩ : ByteArray) false false _ ?side1 ?side2 A30.out).mono ?_); (case side1 => repeat (first | exact (Kd.zaw HO_1.out).2.2 | (with_reducible refine Kd.zaM ?_ _) | (with_reducible refine Kd.zaN ?_ _) | (with_reducible refine Kd.zaW ?_))); (case side2 => exact (Kd.zaw HO_1.out).2.1); rintro e w58 ⟨rfl, hb⟩; have n0_ := zaa.mk (Kd.zaG (by (with_reducible repeat (first | apply Kd.zax | apply Kd.zay | apply Kd.zaC)); exact HO_1.out) hb); have n1_ := zaa.mk (zaq (by repeat (first | (with_reducible first | exact HB.out | apply zad | apply zac | apply zae) | exact HB.out)) hb); clear HO_1; clear HB; have HO_1 := n0_; have HB := n1_; clear n0_ n1_; (try clear hb); (try clear hb2); (try clear hk); (try clear hi)))
       go_meet
       case rel => exact ⟨_, (false), (by first | rfl | (simp; done) | (simp [*]; done)), H', ⟨by have := HJ1.out; first | omega | exact Nat.le_refl _⟩, ⟨by (with_reducible repeat (first | apply Kd.zax | apply Kd.zay | apply Kd.zaC)); exact HO_1.out⟩, ⟨by repeat (first | (with_reducible first | exact HB.out | apply zad | apply zac | apply zae) | exact HB.out)⟩⟩
     ·
      replace c29 := Bool.eq_false_iff.mpr c29
      subst c29
      have H1 : (zab.j1 kj1 t143 x2_1 false) = some r := by rw [if_neg (show ¬ (false = true) by decide)] at H; exact H
      clear H
      have H := H1
      clear H1
      have H' := zaa.mk H
      clear H
      obtain ⟨Ao59, co59, eo59⟩ := Kd.zaZ HO_1.out
      subst eo59
      go_wp2_with (first | ((with_reducible refine zaO (f := 9) rfl ?_); refine zbj (some 22) rfl rfl Tryd.func9 k9 rfl #[.slice Ao59 t143.length co59, .string (⟨#[67]⟩ : ByteArray), .string (⟨#[68]⟩ : ByteArray), .string (⟨#[65]⟩ : ByteArray), .bool true] rfl m9 ?_; (with_reducible refine (zah.calls kj1 _ _ t143 (⟨#[67]⟩ : ByteArray) (⟨#[68]⟩ : ByteArray) (⟨#[65]⟩ : ByteArray) true true _ ?side1 ?side2 A26.out).mono ?_); (case side1 => repeat (first | exact (Kd.zaw HO_1.out).2.2 | (with_reducible refine Kd.zaM ?_ _) | (with_reducible refine Kd.zaN ?_ _) | (with_reducible refine Kd.zaW ?_))); (case side2 => exact (Kd.zaw HO_1.out).2.1); rintro e w60 ⟨rfl, hb⟩; refine ⟨_, rfl, ?_⟩; have n0_ := zaa.mk (Kd.zaG (by (with_reducible repeat (first | apply Kd.zax | apply Kd.zay | apply Kd.zaC)); exact HO_1.out) hb); have n1_ := zaa.mk (zaq (by repeat (first | (with_reducible first | exact HB.out | apply zad | apply zac | apply zae) | exact HB.out)) hb); clear HO_1; clear HB; have HO_1 := n0_; have HB := n1_; clear n0_ n1_; (try clear hb); (try clear hb2); (try clear hk); (try clear hi)) | (go_at_call 9; (with_reducible refine (zah.calls kj1 _ _ t143 (⟨#[68]⟩ : ByteArray) (⟨#[66]⟩ : ByteArray) (⟨#[66]⟩ : ByteArray) true false _ ?side1 ?side2 A28.out).mono ?_); (case side1 => repeat (first | exact (Kd.zaw HO_1.out).2.2 | (with_reducible refine Kd.zaM ?_ _) | (with_reducible refine Kd.zaN ?_ _) | (with_reducible refine Kd.zaW ?_))); (case side2 => exact (Kd.zaw HO_1.out).2.1); rintro e w61 ⟨rfl, hb⟩; have n0_ := zaa.mk (Kd.zaG (by (with_reducible repeat (first | apply Kd.zax | apply Kd.zay | apply Kd.zaC)); exact HO_1.out) hb); have n1_ := zaa.mk (zaq (by repeat (first | (with_reducible first | exact HB.out | apply zad | apply zac | apply zae) | exact HB.out)) hb); clear HO_1; clear HB; have HO_1 := n0_; have HB := n1_; clear n0_ n1_; (try clear hb); (try clear hb2); (try clear hk); (try clear hi)))
      go_meet
      case rel => exact ⟨_, (false), (by first | rfl | (simp; done) | (simp [*]; done)), H', ⟨by have := HJ1.out; first | omega | exact Nat.le_refl _⟩, ⟨by (with_reducible repeat (first | apply Kd.zax | apply Kd.zay | apply Kd.zaC)); exact HO_1.out⟩, ⟨by repeat (first | (with_reducible first | exact HB.out | apply zad | apply zac | apply zae) | exact HB.out)⟩⟩
    ·
     replace c27 := Bool.eq_false_iff.mpr c27
     subst c27
     have H1 : (zab.j1 kj1 t143 x2_1 false) = some r := by rw [if_neg (show ¬ (false = true) by decide)] at H; exact H
     clear H
     have H := H1
     clear H1
     have H' := zaa.mk H
     clear H
     obtain ⟨Ao62, co62, eo62⟩ := Kd.zaZ HO_1.out
     subst eo62
     go_wp2_with (first | ((with_reducible refine zaO (f := 9) rfl ?_); refine zbj (some 22) rfl rfl Tryd.func9 k9 rfl #[.slice Ao62 t143.length co62, .string (⟨#[67]⟩ : ByteArray), .string (⟨#[68]⟩ : ByteArray), .string (⟨#[65]⟩ : ByteArray), .bool true] rfl m9 ?_; (with_reducible refine (zah.calls kj1 _ _ t143 (⟨#[67]⟩ : ByteArray) (⟨#[68]⟩ : ByteArray) (⟨#[65]⟩ : ByteArray) true false _ ?side1 ?side2 A26.out).mono ?_); (case side1 => repeat (first | exact (Kd.zaw HO_1.out).2.2 | (with_reducible refine Kd.zaM ?_ _) | (with_reducible refine Kd.zaN ?_ _) | (with_reducible refine Kd.zaW ?_))); (case side2 => exact (Kd.zaw HO_1.out).2.1); rintro e w63 ⟨rfl, hb⟩; refine ⟨_, rfl, ?_⟩; have n0_ := zaa.mk (Kd.zaG (by (with_reducible repeat (first | apply Kd.zax | apply Kd.zay | apply Kd.zaC)); exact HO_1.out) hb); have n1_ := zaa.mk (zaq (by repeat (first | (with_reducible first | exact HB.out | apply zad | apply zac | apply zae) | exact HB.out)) hb); clear HO_1; clear HB; have HO_1 := n0_; have HB := n1_; clear n0_ n1_; (try clear hb); (try clear hb2); (try clear hk); (try clear hi)))
     go_meet
     case rel => exact ⟨_, (false), (by first | rfl | (simp; done) | (simp [*]; done)), H', ⟨by have := HJ1.out; first | omega | exact Nat.le_refl _⟩, ⟨by (with_reducible repeat (first | apply Kd.zax | apply Kd.zay | apply Kd.zaC)); exact HO_1.out⟩, ⟨by repeat (first | (with_reducible first | exact HB.out | apply zad | apply zac | apply zae) | exact HB.out)⟩⟩
   case rest =>
    clear HC25
    try clear c2
    try clear p2
    try clear c3
    try clear c5
    try clear c7
    try clear c8
    try clear c9
    try clear c27
    try clear c29
    try clear c31
    try clear c33
    try clear c35
    try clear p2
    obtain ⟨kq, x3_24, rfl, HA, HJ24, HO_1, HB⟩ := hcut
    cases kq with
    | zero => exact absurd HA.out (by simp [zab.j1])
    | succ kj24 =>
     have H := HA.out
     clear HA
     simp only [zab.j1] at H
     replace H := Option.bind_eq_some_iff.mp H
     obtain ⟨t156, A640, H⟩ := H
     replace H : (if t156 = true then (if x2_1 = true then (if x3_24 = true then ((zaj.f kj24 t143 (⟨#[65]⟩ : ByteArray)).bind fun t157 => ((zak.f kj24 t157 (([(⟨#[65]⟩ : ByteArray), (⟨#[66]⟩ : ByteArray), (⟨#[67]⟩ : ByteArray), (⟨#[68]⟩ : ByteArray)] : List ByteArray))).bind fun t163 => (if t163 = true then ((zaj.f kj24 t143 (⟨#[105, 110, 116]⟩ : ByteArray)).bind fun t164 => (if (t164.length : Int) = 0 then ((zat.f kj24 t143 (⟨#[66]⟩ : ByteArray)).bind fun t167 => (if t167 = true then (none) else ((zat.f kj24 t143 (⟨#[63]⟩ : ByteArray)).bind fun t168 => (some (!t168))))) else (none))) else (none)))) else (none)) else (none)) else (none)) = some r := H
     have A64 := zaa.mk A640
     clear A640
     by_cases c65 : t156 = true
     ·
      subst c65
      have H1 : (if x2_1 = true then (if x3_24 = true then ((zaj.f kj24 t143 (⟨#[65]⟩ : ByteArray)).bind fun t157 => ((zak.f kj24 t157 (([(⟨#[65]⟩ : ByteArray), (⟨#[66]⟩ : ByteArray), (⟨#[67]⟩ : ByteArray), (⟨#[68]⟩ : ByteArray)] : List ByteArray))).bind fun t163 => (if t163 = true then ((zaj.f kj24 t143 (⟨#[105, 110, 116]⟩ : ByteArray)).bind fun t164 => (if (t164.length : Int) = 0 then ((zat.f kj24 t143 (⟨#[66]⟩ : ByteArray)).bind fun t167 => (if t167 = true then (none) else ((zat.f kj24 t143 (⟨#[63]⟩ : ByteArray)).bind fun t168 => (some (!t168))))) else (none))) else (none)))) else (none)) else (none)) = some r := by rw [if_pos rfl] at H; exact H
      clear H
      have H := H1
      clear H1
      by_cases c66 : x2_1 = true
      ·
       subst c66
       have H1 : (if x3_24 = true then ((zaj.f kj24 t143 (⟨#[65]⟩ : ByteArray)).bind fun t157 => ((zak.f kj24 t157 (([(⟨#[65]⟩ : ByteArray), (⟨#[66]⟩ : ByteArray), (⟨#[67]⟩ : ByteArray), (⟨#[68]⟩ : ByteArray)] : List ByteArray))).bind fun t163 => (if t163 = true then ((zaj.f kj24 t143 (⟨#[105, 110, 116]⟩ : ByteArray)).bind fun t164 => (if (t164.length : Int) = 0 then ((zat.f kj24 t143 (⟨#[66]⟩ : ByteArray)).bind fun t167 => (if t167 = true then (none) else ((zat.f kj24 t143 (⟨#[63]⟩ : ByteArray)).bind fun t168 => (some (!t168))))) else (none))) else (none)))) else (none)) = some r := by rw [if_pos rfl] at H; exact H
       clear H
       have H := H1
       clear H1
       by_cases c67 : x3_24 = true
       ·
        subst c67
        have H1 : ((zaj.f kj24 t143 (⟨#[65]⟩ : ByteArray)).bind fun t157 => ((zak.f kj24 t157 (([(⟨#[65]⟩ : ByteArray), (⟨#[66]⟩ : ByteArray), (⟨#[67]⟩ : ByteArray), (⟨#[68]⟩ : ByteArray)] : List ByteArray))).bind fun t163 => (if t163 = true then ((zaj.f kj24 t143 (⟨#[105, 110, 116]⟩ : ByteArray)).bind fun t164 => (if (t164.length : Int) = 0 then ((zat.f kj24 t143 (⟨#[66]⟩ : ByteArray)).bind fun t167 => (if t167 = true then (none) else ((zat.f kj24 t143 (⟨#[63]⟩ : ByteArray)).bind fun t168 => (some (!t168))))) else (none))) else (none)))) = some r := by rw [if_pos rfl] at H; exact H
        clear H
        have H := H1
        clear H1
        replace H := Option.bind_eq_some_iff.mp H
        obtain ⟨t157, A680, H⟩ := H
        replace H : ((zak.f kj24 t157 (([(⟨#[65]⟩ : ByteArray), (⟨#[66]⟩ : ByteArray), (⟨#[67]⟩ : ByteArray), (⟨#[68]⟩ : ByteArray)] : List ByteArray))).bind fun t163 => (if t163 = true then ((zaj.f kj24 t143 (⟨#[105, 110, 116]⟩ : ByteArray)).bind fun t164 => (if (t164.length : Int) = 0 then ((zat.f kj24 t143 (⟨#[66]⟩ : ByteArray)).bind fun t167 => (if t167 = true then (none) else ((zat.f kj24 t143 (⟨#[63]⟩ : ByteArray)).bind fun t168 => (some (!t168))))) else (none))) else (none))) = some r := H
        have A68 := zaa.mk A680
        clear A680
        obtain ⟨y160, hy160⟩ : ∃ y_ : List ByteArray, y_ = (([(⟨#[65]⟩ : ByteArray), (⟨#[66]⟩ : ByteArray), (⟨#[67]⟩ : ByteArray), (⟨#[68]⟩ : ByteArray)] : List ByteArray)) := ⟨_, rfl⟩
        replace H : ((zak.f kj24 t157 y160).bind fun t163 => (if t163 = true then ((zaj.f kj24 t143 (⟨#[105, 110, 116]⟩ : ByteArray)).bind fun t164 => (if (t164.length : Int) = 0 then ((zat.f kj24 t143 (⟨#[66]⟩ : ByteArray)).bind fun t167 => (if t167 = true then (none) else ((zat.f kj24 t143 (⟨#[63]⟩ : ByteArray)).bind fun t168 => (some (!t168))))) else (none))) else (none))) = some r := by first | (rw [hy160]; with_reducible exact H) | (have H2_ := (Option.bind_some _ _).symm.trans H; rw [hy160]; with_reducible exact H2_) | (have H2_ := (Option.bind_some _ _).symm.trans H; with_reducible exact H2_) | with_reducible exact H | (rw [hy160]; exact H) | exact H
        have Ny160 := zaa.mk hy160
        clear hy160
        replace H := Option.bind_eq_some_iff.mp H
        obtain ⟨t163, A690, H⟩ := H
        replace H : (if t163 = true then ((zaj.f kj24 t143 (⟨#[105, 110, 116]⟩ : ByteArray)).bind fun t164 => (if (t164.length : Int) = 0 then ((zat.f kj24 t143 (⟨#[66]⟩ : ByteArray)).bind fun t167 => (if t167 = true then (none) else ((zat.f kj24 t143 (⟨#[63]⟩ : ByteArray)).bind fun t168 => (some (!t168))))) else (none))) else (none)) = some r := H
        have A69 := zaa.mk A690
        clear A690
        by_cases c70 : t163 = true
        ·
         subst c70
         have H1 : ((zaj.f kj24 t143 (⟨#[105, 110, 116]⟩ : ByteArray)).bind fun t164 => (if (t164.length : Int) = 0 then ((zat.f kj24 t143 (⟨#[66]⟩ : ByteArray)).bind fun t167 => (if t167 = true then (none) else ((zat.f kj24 t143 (⟨#[63]⟩ : ByteArray)).bind fun t168 => (some (!t168))))) else (none))) = some r := by rw [if_pos rfl] at H; exact H
         clear H
         have H := H1
         clear H1
         replace H := Option.bind_eq_some_iff.mp H
         obtain ⟨t164, A710, H⟩ := H
         replace H : (if (t164.length : Int) = 0 then ((zat.f kj24 t143 (⟨#[66]⟩ : ByteArray)).bind fun t167 => (if t167 = true then (none) else ((zat.f kj24 t143 (⟨#[63]⟩ : ByteArray)).bind fun t168 => (some (!t168))))) else (none)) = some r := H
         have A71 := zaa.mk A710
         clear A710
         by_cases c72 : (t164.length : Int) = 0
         ·
          rw [if_pos c72] at H
          have c72b0 : ((t164.length : Int) == 0) = true := beq_iff_eq.mpr c72
          have c72b1 : ((t164.length : Int) != 0) = false := bne_eq_false_iff_eq.mpr c72
          clear c72
          replace H := Option.bind_eq_some_iff.mp H
          obtain ⟨t167, A730, H⟩ := H
          replace H : (if t167 = true then (none) else ((zat.f kj24 t143 (⟨#[63]⟩ : ByteArray)).bind fun t168 => (some (!t168)))) = some r := H
          have A73 := zaa.mk A730
          clear A730
          by_cases c74 : t167 = true
          ·
           subst c74
           have H1 : (none) = some r := by rw [if_pos rfl] at H; exact H
           clear H
           have H := H1
           clear H1
           exact absurd H s9
          ·
           replace c74 := Bool.eq_false_iff.mpr c74
           subst c74
           have H1 : ((zat.f kj24 t143 (⟨#[63]⟩ : ByteArray)).bind fun t168 => (some (!t168))) = some r := by rw [if_neg (show ¬ (false = true) by decide)] at H; exact H
           clear H
           have H := H1
           clear H1
           replace H := Option.bind_eq_some_iff.mp H
           obtain ⟨t168, A750, H⟩ := H
           replace H : (some (!t168)) = some r := H
           have A75 := zaa.mk A750
           clear A750
           obtain rfl := Option.some.inj H
           have Tk1_ := zaa.mk True.intro
           have Tk2_ := zaa.mk True.intro
           have Tk3_ := zaa.mk True.intro
           have Tk4_ := zaa.mk True.intro
           go_wp2_with (first | ((with_reducible refine zaO (f := 10) rfl ?_); refine zbj (some 43) rfl rfl Tryd.func10 k9 rfl #[] rfl m9 ?_; (with_reducible refine (zaV.calls kj24  true _ A64.out).mono ?_); rintro e w76 ⟨rfl, hb⟩; refine ⟨_, rfl, ?_⟩; have n0_ := zaa.mk (Kd.zaG (by (with_reducible repeat (first | apply Kd.zax | apply Kd.zay | apply Kd.zaC)); exact HO_1.out) hb); have n1_ := zaa.mk (zaq (by repeat (first | (with_reducible first | exact HB.out | apply zad | apply zac | apply zae) | exact HB.out)) hb); clear HO_1; clear HB; have HO_1 := n0_; have HB := n1_; clear n0_ n1_; (try clear hb); (try clear hb2); (try clear hk); (try clear hi); obtain ⟨Ao77, co77, eo77⟩ := Kd.zaZ HO_1.out; subst eo77) | (clear Tk1_; go_at_call 12; (with_reducible refine (zaj.calls kj24 _ _ t143 (⟨#[65]⟩ : ByteArray) t157 _ ?side1 ?side2 A68.out).mono ?_); (case side1 => repeat (first | exact (Kd.zaw HO_1.out).2.2 | (with_reducible refine Kd.zaM ?_ _) | (with_reducible refine Kd.zaN ?_ _) | (with_reducible refine Kd.zaW ?_))); (case side2 => exact (Kd.zaw HO_1.out).2.1); rintro e w78 ⟨v158, rfl, ho0, hb⟩; have n0_ := zaa.mk (Kd.zaG (by (with_reducible repeat (first | apply Kd.zax | apply Kd.zay | apply Kd.zaC)); exact HO_1.out) hb); have n1_ := zaa.mk (Kd.zbk ho0 (zaL (by repeat (first | (with_reducible first | exact HB.out | apply zad | apply zac | apply zae) | exact HB.out)))); have n2_ := zaa.mk (zaq (by repeat (first | (with_reducible first | exact HB.out | apply zad | apply zac | apply zae) | exact HB.out)) hb); clear HO_1; clear HB; have HO_1 := n0_; have HO159 := n1_; have HB := n2_; clear n0_ n1_ n2_; (try clear hb); (try clear hb2); (try clear hk); (try clear hi); (try clear ho0)) | ((with_reducible refine zbp (N := 53) rfl ?_); (try (refine zbS (by rfl) ?_; dsimp only)); refine Kd.R_lit Kd.string _ 9 ?hg (N := 53) ?hd (xs := ([(⟨#[65]⟩ : ByteArray), (⟨#[66]⟩ : ByteArray), (⟨#[67]⟩ : ByteArray), (⟨#[68]⟩ : ByteArray)] : List ByteArray)) (inner := [.string (⟨#[65]⟩ : ByteArray), .string (⟨#[66]⟩ : ByteArray), .string (⟨#[67]⟩ : ByteArray), .string (⟨#[68]⟩ : ByteArray)]) (ok := fun _ => True) (okp := fun _ => True) ?hr ?hp (fun _ hk => hk) trivial (Below.refl _ _) (Nat.le_refl _) s9 ?_; (case hd => rfl); (case hg => rfl); (case hr => first | (go_simp; done) | (go_simp; rfl)); (case hp => exact (Reps.one (show Kd.M Kd.string _ _ _ (⟨#[65]⟩ : ByteArray) [.string (⟨#[65]⟩ : ByteArray)] from rfl) (Reps.one (show Kd.M Kd.string _ _ _ (⟨#[66]⟩ : ByteArray) [.string (⟨#[66]⟩ : ByteArray)] from rfl) (Reps.one (show Kd.M Kd.string _ _ _ (⟨#[67]⟩ : ByteArray) [.string (⟨#[67]⟩ : ByteArray)] from rfl) (Reps.one (show Kd.M Kd.string _ _ _ (⟨#[68]⟩ : ByteArray) [.string (⟨#[68]⟩ : ByteArray)] from rfl) (Reps.none _ _)))))); intro v161 w79 ho80 hb hg_ hnew_; clear hg_ hnew_; (first | rw [← Ny160.out] at ho80 | (simp only [Int.reduceToNat] at ho80; rw [← Ny160.out] at ho80)); have n0_ := zaa.mk (Kd.zaG (by (with_reducible repeat (first | apply Kd.zax | apply Kd.zay | apply Kd.zaC)); exact HO_1.out) hb); have n1_ := zaa.mk (Kd.zcW (by (with_reducible repeat (first | apply Kd.zax | apply Kd.zay | apply Kd.zaC)); exact HO159.out) (Kd.zdy ho80) hb); have n2_ := zaa.mk (Kd.zbk (Kd.zeF ho80 (Kd.R_lt (by (with_reducible repeat (first | apply Kd.zax | apply Kd.zay | apply Kd.zaC)); exact HO159.out))) (zaL (by repeat (first | (with_reducible first | exact HB.out | apply zad | apply zac | apply zae) | exact HB.out)))); have n3_ := zaa.mk (zaq (by repeat (first | (with_reducible first | exact HB.out | apply zad | apply zac | apply zae) | exact HB.out)) hb); clear HO_1; clear HO159; clear HB; have HO_1 := n0_; have HO159 := n1_; have HO162 := n2_; have HB := n3_; clear n0_ n1_ n2_ n3_; clear hb ho80; obtain ⟨Ao81, co81, eo81⟩ := Kd.zaZ HO159.out; subst eo81; obtain ⟨Ao82, co82, eo82⟩ := Kd.zaZ HO162.out; subst eo82) | (go_at_call 11; (with_reducible refine (zak.calls kj24 _ _ t157 _ _ y160 true _ ?side1 ?side2 ?side3 ?side4 A69.out).mono ?_); (case side1 => repeat (first | exact (Kd.zaw HO159.out).2.2 | (with_reducible refine Kd.zaM ?_ _) | (with_reducible refine Kd.zaN ?_ _) | (with_reducible refine Kd.zaW ?_))); (case side2 => exact (Kd.zaw HO159.out).2.1); (case side3 => repeat (first | exact (Kd.zaw HO162.out).2.2 | (with_reducible refine Kd.zaM ?_ _) | (with_reducible refine Kd.zaN ?_ _) | (with_reducible refine Kd.zaW ?_))); (case side4 => exact (Kd.zaw HO162.out).2.1); rintro e w' ⟨rfl, ⟨nd, rfl⟩⟩) | (clear Tk2_; go_at_call 12; (with_reducible refine (zaj.calls kj24 _ _ t143 (⟨#[105, 110, 116]⟩ : ByteArray) t164 _ ?side1 ?side2 A71.out).mono ?_); (case side1 => repeat (first | exact (Kd.zaw HO_1.out).2.2 | (with_reducible refine Kd.zaM ?_ _) | (with_reducible refine Kd.zaN ?_ _) | (with_reducible refine Kd.zaW ?_))); (case side2 => exact (Kd.zaw HO_1.out).2.1); rintro e w83 ⟨v165, rfl, ho0, hb⟩; have n0_ := zaa.mk (Kd.zaG (by (with_reducible repeat (first | apply Kd.zax | apply Kd.zay | apply Kd.zaC)); exact HO_1.out) hb); have n1_ := zaa.mk (Kd.zcW (by (with_reducible repeat (first | apply Kd.zax | apply Kd.zay | apply Kd.zaC)); exact HO159.out) (Kd.zdy ho0) hb); have n2_ := zaa.mk (Kd.zcW (by (with_reducible repeat (first | apply Kd.zax | apply Kd.zay | apply Kd.zaC)); exact HO162.out) (Kd.zdy ho0) hb); have n3_ := zaa.mk (Kd.zbk (Kd.zeF (Kd.zeF ho0 (Kd.R_lt (by (with_reducible repeat (first | apply Kd.zax | apply Kd.zay | apply Kd.zaC)); exact HO159.out))) (Kd.R_lt (by (with_reducible repeat (first | apply Kd.zax | apply Kd.zay | apply Kd.zaC)); exact HO162.out))) (zaL (by repeat (first | (with_reducible first | exact HB.out | apply zad | apply zac | apply zae) | exact HB.out)))); have n4_ := zaa.mk (zaq (by repeat (first | (with_reducible first | exact HB.out | apply zad | apply zac | apply zae) | exact HB.out)) hb); clear HO_1; clear HO159; clear HO162; clear HB; have HO_1 := n0_; have HO159 := n1_; have HO162 := n2_; have HO166 := n3_; have HB := n4_; clear n0_ n1_ n2_ n3_ n4_; (try clear hb); (try clear hb2); (try clear hk); (try clear hi); (try clear ho0); obtain ⟨Ao84, co84, eo84⟩ := Kd.zaZ HO166.out; subst eo84) | (clear Tk3_; go_at_call 13; (with_reducible refine (zat.calls kj24 _ _ t143 (⟨#[66]⟩ : ByteArray) false _ ?side1 ?side2 A73.out).mono ?_); (case side1 => repeat (first | exact (Kd.zaw HO_1.out).2.2 | (with_reducible refine Kd.zaM ?_ _) | (with_reducible refine Kd.zaN ?_ _) | (with_reducible refine Kd.zaW ?_))); (case side2 => exact (Kd.zaw HO_1.out).2.1); rintro e w85 ⟨rfl, hb⟩; have n0_ := zaa.mk (Kd.zaG (by (with_reducible repeat (first | apply Kd.zax | apply Kd.zay | apply Kd.zaC)); exact HO_1.out) hb); have n1_ := zaa.mk (Kd.zaG (by (with_reducible repeat (first | apply Kd.zax | apply Kd.zay | apply Kd.zaC)); exact HO159.out) hb); have n2_ := zaa.mk (Kd.zaG (by (with_reducible repeat (first | apply Kd.zax | apply Kd.zay | apply Kd.zaC)); exact HO162.out) hb); have n3_ := zaa.mk (Kd.zaG (by (with_reducible repeat (first | apply Kd.zax | apply Kd.zay | apply Kd.zaC)); exact HO166.out) hb); have n4_ := zaa.mk (zaq (by repeat (first | (with_reducible first | exact HB.out | apply zad | apply zac | apply zae) | exact HB.out)) hb); clear HO_1; clear HO159; clear HO162; clear HO166; clear HB; have HO_1 := n0_; have HO159 := n1_; have HO162 := n2_; have HO166 := n3_; have HB := n4_; clear n0_ n1_ n2_ n3_ n4_; (try clear hb); (try clear hb2); (try clear hk); (try clear hi)) | (clear Tk4_; go_at_call 13; (with_reducible refine (zat.calls kj24 _ _ t143 (⟨#[63]⟩ : ByteArray) t168 _ ?side1 ?side2 A75.out).mono ?_); (case side1 => repeat (first | exact (Kd.zaw HO_1.out).2.2 | (with_reducible refine Kd.zaM ?_ _) | (with_reducible refine Kd.zaN ?_ _) | (with_reducible refine Kd.zaW ?_))); (case side2 => exact (Kd.zaw HO_1.out).2.1); rintro e w86 ⟨rfl, hb⟩; have n0_ := zaa.mk (Kd.zaG (by (with_reducible repeat (first | apply Kd.zax | apply Kd.zay | apply Kd.zaC)); exact HO_1.out) hb); have n1_ := zaa.mk (Kd.zaG (by (with_reducible repeat (first | apply Kd.zax | apply Kd.zay | apply Kd.zaC)); exact HO159.out) hb); have n2_ := zaa.mk (Kd.zaG (by (with_reducible repeat (first | apply Kd.zax | apply Kd.zay | apply Kd.zaC)); exact HO162.out) hb); have n3_ := zaa.mk (Kd.zaG (by (with_reducible repeat (first | apply Kd.zax | apply Kd.zay | apply Kd.zaC)); exact HO166.out) hb); have n4_ := zaa.mk (zaq (by repeat (first | (with_reducible first | exact HB.out | apply zad | apply zac | apply zae) | exact HB.out)) hb); clear HO_1; clear HO159; clear HO162; clear HO166; clear HB; have HO_1 := n0_; have HO159 := n1_; have HO162 := n2_; have HO166 := n3_; have HB := n4_; clear n0_ n1_ n2_ n3_ n4_; (try clear hb); (try clear hb2); (try clear hk); (try clear hi)))
           go_ret
           exact ⟨by first | rfl | (simp [zaS, zaT] <;> rfl) | (simp [*, zaS, zaT] <;> rfl), by repeat (first | (with_reducible first | exact HB.out | apply zad | apply zac | apply zae) | exact HB.out)⟩
         ·
          rw [if_neg c72] at H
          exact absurd H s9
        ·
         replace c70 := Bool.eq_false_iff.mpr c70
         subst c70
         have H1 : (none) = some r := by rw [if_neg (show ¬ (false = true) by decide)] at H; exact H
         clear H
         have H := H1
         clear H1
         exact absurd H s9
       ·
        replace c67 := Bool.eq_false_iff.mpr c67
        subst c67
        have H1 : (none) = some r := by rw [if_neg (show ¬ (false = true) by decide)] at H; exact H
        clear H
        have H := H1
        clear H1
        exact absurd H s9
      ·
       replace c66 := Bool.eq_false_iff.mpr c66
       subst c66
       have H1 : (none) = some r := by rw [if_neg (show ¬ (false = true) by decide)] at H; exact H
       clear H
       have H := H1
       clear H1
       exact absurd H s9
     ·
      replace c65 := Bool.eq_false_iff.mpr c65
      subst c65
      have H1 : (none) = some r := by rw [if_neg (show ¬ (false = true) by decide)] at H; exact H
      clear H
      have H := H1
      clear H1
      exact absurd H s9
def zab.Pure : Prop := ∃ k, zab.f k  = some true
def zam.l0 : Nat → List (S74) → Int → Option (Bool)
 | 0, _, _ => none
 | k + 1, x0, x3 => if x3 < (x0.length : Int) then (if 0 ≤ x3 then (if (((za0 x0 x3).f0).size : Int) > 30 then (some true) else (if (((za0 x0 x3).f1).size : Int) > 30 then (some true) else (zam.l0 k x0 (wrap64 (x3 + 1))))) else (none)) else (some false)
def zam.f (k : Nat) (l0 : List (S74)) : Option (Bool) := zam.l0 k l0 0
theorem zam.zbI : ∀ k, (∀ y0 y1, LeO (zam.l0 k y0 y1) (zam.l0 (k + 1) y0 y1))
 | 0 => fun _ _ r h => by simp [zam.l0] at h
 | k + 1 => by
  have ih0 := zam.zbI k
  ·
   intro y0 y1
   unfold zam.l0
   repeat' first
   | (with_reducible exact ih0 _ _)
   | (with_reducible exact LeO.refl _)
   | (with_reducible exact LeO.none _)
   | (with_reducible refine LeO.ite ?_ ?_)
   | (with_reducible refine LeO.bind ?_ (fun _ => ?_))
   | exact ih0 _ _
   | exact LeO.none _
   | refine LeO.ite ?_ ?_
   | refine LeO.bind ?_ (fun _ => ?_)
theorem zam.mono : ∀ a0 k, LeO (zam.f k a0) (zam.f (k + 1) a0) := by
 intro a0 k
 have ih0 := zam.zbI k
 unfold zam.f
 repeat' first
   | (with_reducible exact ih0 _ _)
   | (with_reducible exact LeO.refl _)
   | (with_reducible exact LeO.none _)
   | (with_reducible refine LeO.ite ?_ ?_)
   | (with_reducible refine LeO.bind ?_ (fun _ => ?_))
   | exact ih0 _ _
   | exact LeO.none _
   | refine LeO.ite ?_ ?_
   | refine LeO.bind ?_ (fun _ => ?_)
theorem zam.calls (k : Nat) (A0 : Option Addr) (c0 : Nat) (l0 : List (S74)) (r : Bool) (w : World) (hr0 : Kd.C k74 w A0 l0.length l0) (hc0 : l0.length ≤ c0) (h : zam.f k l0 = some r) :
  Calls Tryd.prog 26 #[.slice A0 l0.length c0] w fun e w' => e = .returned (.bool r) ∧ zbb w w' := by
 have HR0 := zaa.mk hr0
 have HC0 := zaa.mk hc0
 clear hr0 hc0
 have H : (zam.l0 k l0 0) = some r := h
 clear h
 have H' := zaa.mk H
 clear H
 go_enter Tryd.func26, Tryd.ntmps26
 go_wp2
 go_loopg [3] k (fun kq v3 w' => ∃ (x3_1 : Int), v3 = .int .i64 x3_1 ∧ zaa (zam.l0 kq l0 x3_1 = some r) ∧ zaa (kq ≤ k) ∧ zbb w w')
 case atStart => exact ⟨(0), (by first | rfl | (simp; done) | (simp [*]; done)), H', ⟨Nat.le_refl _⟩, by repeat (first | exact zbb.refl _ | apply zbb.step)⟩
 case round =>
  clear H'
  obtain ⟨x3_1, rfl, HA, HK1, ⟨m1, rfl⟩⟩ := hrel
  cases gk with
  | zero => exact absurd HA.out (by simp [zam.l0])
  | succ k1 =>
   have H := HA.out
   clear HA
   simp only [zam.l0] at H
   by_cases c2 : x3_1 < (l0.length : Int)
   ·
    rw [if_pos c2] at H
    have c2b0 : decide (x3_1 < (l0.length : Int)) = true := decide_eq_true c2
    clear c2
    by_cases c3 : 0 ≤ x3_1
    ·
     rw [if_pos c3] at H
     have c3b0 : decide (0 ≤ x3_1) = true := decide_eq_true c3
     clear c3
     by_cases c4 : (((za0 l0 x3_1).f0).size : Int) > 30
     ·
      rw [if_pos c4] at H
      have c4b0 : decide (30 < (((za0 l0 x3_1).f0).size : Int)) = true := decide_eq_true c4
      have c4b1 : decide (30 < ((za0 l0 x3_1).f0).size) = true := decide_eq_true o9
      clear c4
      obtain rfl := Option.some.inj H
      have p169 : 0 ≤ (x3_1 : Int) := of_decide_eq_true (by first | (with_reducible assumption) | assumption)
      have q169 : x3_1 < (l0.length : Int) := of_decide_eq_true (by first | (with_reducible assumption) | assumption)
      obtain ⟨ad169, e169, hx169_0, hx169_1⟩ := zcD HR0.out x3_1 p169 q169
      cases e169
      replace p169 := eq_true p169
      replace q169 := eq_true q169
      go_wp2
      go_ret
      exact ⟨by first | rfl | (simp; done) | (simp [*]; done), by repeat (first | exact zbb.refl _ | apply zbb.step)⟩
     ·
      rw [if_neg c4] at H
      have c4b0 : decide (30 < (((za0 l0 x3_1).f0).size : Int)) = false := decide_eq_false c4
      have c4b1 : decide (30 < ((za0 l0 x3_1).f0).size) = false := decide_eq_false o9
      clear c4
      by_cases c5 : (((za0 l0 x3_1).f1).size : Int) > 30
      ·
       rw [if_pos c5] at H
       have c5b0 : decide (30 < (((za0 l0 x3_1).f1).size : Int)) = true := decide_eq_true c5
       have c5b1 : decide (30 < ((za0 l0 x3_1).f1).size) = true := decide_eq_true o9
       clear c5
       obtain rfl := Option.some.inj H
       have p169 : 0 ≤ (x3_1 : Int) := of_decide_eq_true (by first | (with_reducible assumption) | assumption)
       have q169 : x3_1 < (l0.length : Int) := of_decide_eq_true (by first | (with_reducible assumption) | assumption)
       obtain ⟨ad169, e169, hx169_0, hx169_1⟩ := zcD HR0.out x3_1 p169 q169
       cases e169
       replace p169 := eq_true p169
       replace q169 := eq_true q169
       have p170 : 0 ≤ (x3_1 : Int) := of_decide_eq_true (by first | (with_reducible assumption) | assumption)
       have q170 : x3_1 < (l0.length : Int) := of_decide_eq_true (by first | (with_reducible assumption) | assumption)
       obtain ⟨ad170, e170, hx170_0, hx170_1⟩ := zcD HR0.out x3_1 p170 q170
       obtain rfl : ad169 = ad170 := (by injection e170)
       replace p170 := eq_true p170
       replace q170 := eq_true q170
       go_wp2
       go_ret
       exact ⟨by first | rfl | (simp; done) | (simp [*]; done), by repeat (first | exact zbb.refl _ | apply zbb.step)⟩
      ·
       rw [if_neg c5] at H
       have c5b0 : decide (30 < (((za0 l0 x3_1).f1).size : Int)) = false := decide_eq_false c5
       have c5b1 : decide (30 < ((za0 l0 x3_1).f1).size) = false := decide_eq_false o9
       clear c5
       have H' := zaa.mk H
       clear H
       have p169 : 0 ≤ (x3_1 : Int) := of_decide_eq_true (by first | (with_reducible assumption) | assumption)
       have q169 : x3_1 < (l0.length : Int) := of_decide_eq_true (by first | (with_reducible assumption) | assumption)
       obtain ⟨ad169, e169, hx169_0, hx169_1⟩ := zcD HR0.out x3_1 p169 q169
       cases e169
       replace p169 := eq_true p169
       replace q169 := eq_true q169
       have p170 : 0 ≤ (x3_1 : Int) := of_decide_eq_true (by first | (with_reducible assumption) | assumption)
       have q170 : x3_1 < (l0.length : Int) := of_decide_eq_true (by first | (with_reducible assumption) | assumption)
       obtain ⟨ad170, e170, hx170_0, hx170_1⟩ := zcD HR0.out x3_1 p170 q170
       obtain rfl : ad169 = ad170 := (by injection e170)
       replace p170 := eq_true p170
       replace q170 := eq_true q170
       go_wp2
       go_roundg k1
       case measure => have := HK1.out; omega
       case rel => exact ⟨(wrap64 (x3_1 + 1)), (by first | rfl | (simp; done) | (simp [*]; done)), H', ⟨by have := HK1.out; omega⟩, by repeat (first | exact zbb.refl _ | apply zbb.step)⟩
    ·
     rw [if_neg c3] at H
     exact absurd H s9
   ·
    rw [if_neg c2] at H
    have c2b0 : decide (x3_1 < (l0.length : Int)) = false := decide_eq_false c2
    clear c2
    obtain rfl := Option.some.inj H
    go_wp2
    go_ret
    exact ⟨by first | rfl | (simp; done) | (simp [*]; done), by repeat (first | exact zbb.refl _ | apply zbb.step)⟩
end Go.Proofs.YtofoegknealilaaDoor.PAll
end
