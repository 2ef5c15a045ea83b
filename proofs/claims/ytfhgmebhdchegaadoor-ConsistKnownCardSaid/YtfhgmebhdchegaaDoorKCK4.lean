/- Parts of the proof of one statement, packed: what the program's functions compute. No conditions. -/
import Derived.Test.YtfhgmebhdchegaaDoorKCK1
import Derived.Test.YtfhgmebhdchegaaDoorKCK3
import Derived.Test.YtfhgmebhdchegaaDoorKCK2
set_option linter.unusedSimpArgs false
set_option linter.unusedVariables false
set_option maxRecDepth 100000
set_option maxHeartbeats 8000000
section
namespace Go.Proofs.YtfhgmebhdchegaaDoor.PAll
open Go.RowKit Go.Proofs.YtfhgmebhdchegaaDoorW.zai Go.Proofs.YtfhgmebhdchegaaDoorW.zas Go.Proofs.YtfhgmebhdchegaaDoorW.za5
attribute [local go_sem] zbg zbh zbt zbs za7 za8 zbf zbi
mutual
def zar.j0 : Nat → List (S43) → ByteArray → ByteArray → Bool → Option (Bool)
 | 0, _, _, _, _ => none
 | k + 1, x0, x1, x2, x31 => if x31 = true then (some false) else ((zal.f k x0 x1).bind fun t186 => ((zal.f k x0 x2).bind fun t189 => (zar.l0 k t186 t189 (t189.length : Int) 0)))
def zar.l0 : Nat → List (S84) → List (S84) → Int → Int → Option (Bool)
 | 0, _, _, _, _ => none
 | k + 1, x11, x37, x38, x39 => if x39 < x38 then (if 0 ≤ x39 then (if x39 < (x37.length : Int) then ((zaW.f k x11 ((zaV x37 x39).f0) ((zaV x37 x39).f1)).bind fun t194 => (if t194 = true then (zar.l0 k x11 x37 x38 (wrap64 (x39 + 1))) else (some false))) else (none)) else (none)) else (some true)
end
def zar.f (k : Nat) (l0 : List (S43)) (a1 : ByteArray) (a2 : ByteArray) : Option (Bool) := (zbG.f l0 a1).bind fun bt182 => ((zbG.f l0 a2).bind fun bt184 => (if bt182.2 = true then (zar.j0 k l0 a1 a2 (!bt184.2)) else (zar.j0 k l0 a1 a2 true)))
theorem zar.zcF : ∀ k, (∀ y0 y1 y2 y3, LeO (zar.j0 k y0 y1 y2 y3) (zar.j0 (k + 1) y0 y1 y2 y3)) ∧ (∀ y0 y1 y2 y3, LeO (zar.l0 k y0 y1 y2 y3) (zar.l0 (k + 1) y0 y1 y2 y3))
 | 0 => ⟨fun _ _ _ _ r h => by simp [zar.j0] at h, fun _ _ _ _ r h => by simp [zar.l0] at h⟩
 | k + 1 => by
  obtain ⟨ih0, ih1⟩ := zar.zcF k
  refine ⟨?_, ?_⟩
  ·
   intro y0 y1 y2 y3
   unfold zar.j0
   repeat' first
   | (with_reducible exact ih0 _ _ _ _)
   | (with_reducible exact ih1 _ _ _ _)
   | (with_reducible exact zaW.mono _ _ _ _)
   | (with_reducible exact zal.mono _ _ _)
   | (with_reducible exact LeO.refl _)
   | (with_reducible exact LeO.none _)
   | (with_reducible refine LeO.ite ?_ ?_)
   | (with_reducible refine LeO.bind ?_ (fun _ => ?_))
   | exact ih0 _ _ _ _
   | exact ih1 _ _ _ _
   | exact zaW.mono _ _ _ _
   | exact zal.mono _ _ _
   | exact LeO.none _
   | refine LeO.ite ?_ ?_
   | refine LeO.bind ?_ (fun _ => ?_)
  ·
   intro y0 y1 y2 y3
   unfold zar.l0
   repeat' first
   | (with_reducible exact ih0 _ _ _ _)
   | (with_reducible exact ih1 _ _ _ _)
   | (with_reducible exact zaW.mono _ _ _ _)
   | (with_reducible exact zal.mono _ _ _)
   | (with_reducible exact LeO.refl _)
   | (with_reducible exact LeO.none _)
   | (with_reducible refine LeO.ite ?_ ?_)
   | (with_reducible refine LeO.bind ?_ (fun _ => ?_))
   | exact ih0 _ _ _ _
   | exact ih1 _ _ _ _
   | exact zaW.mono _ _ _ _
   | exact zal.mono _ _ _
   | exact LeO.none _
   | refine LeO.ite ?_ ?_
   | refine LeO.bind ?_ (fun _ => ?_)
theorem zar.mono : ∀ a0 a1 a2 k, LeO (zar.f k a0 a1 a2) (zar.f (k + 1) a0 a1 a2) := by
 intro a0 a1 a2 k
 obtain ⟨ih0, ih1⟩ := zar.zcF k
 unfold zar.f
 repeat' first
   | (with_reducible exact ih0 _ _ _ _)
   | (with_reducible exact ih1 _ _ _ _)
   | (with_reducible exact zaW.mono _ _ _ _)
   | (with_reducible exact zal.mono _ _ _)
   | (with_reducible exact LeO.refl _)
   | (with_reducible exact LeO.none _)
   | (with_reducible refine LeO.ite ?_ ?_)
   | (with_reducible refine LeO.bind ?_ (fun _ => ?_))
   | exact ih0 _ _ _ _
   | exact ih1 _ _ _ _
   | exact zaW.mono _ _ _ _
   | exact zal.mono _ _ _
   | exact LeO.none _
   | refine LeO.ite ?_ ?_
   | refine LeO.bind ?_ (fun _ => ?_)
theorem zar.calls (k : Nat) (A0 : Option Addr) (c0 : Nat) (l0 : List (S43)) (a1 : ByteArray) (a2 : ByteArray) (r : Bool) (w : World) (hr0 : Kd.C k43 w A0 l0.length l0) (hc0 : l0.length ≤ c0) (h : zar.f k l0 a1 a2 = some r) :
  Calls Tryd.prog 21 #[.slice A0 l0.length c0, .string a1, .string a2] w fun e w' => e = .returned (.bool r) ∧ Below w.heap.size w w' := by
 have hu84 := Tryd.underlying84
 have HR0 := zaa.mk hr0
 have HC0 := zaa.mk hc0
 clear hr0 hc0
 have HB := zaa.mk (Below.refl w.heap.size w)
 have H : ((zbG.f l0 a1).bind fun bt182 => ((zbG.f l0 a2).bind fun bt184 => (if bt182.2 = true then (zar.j0 k l0 a1 a2 (!bt184.2)) else (zar.j0 k l0 a1 a2 true)))) = some r := h
 clear h
 replace H := Option.bind_eq_some_iff.mp H
 obtain ⟨⟨t182, t183⟩, A40, H⟩ := H
 replace H : ((zbG.f l0 a2).bind fun bt184 => (if t183 = true then (zar.j0 k l0 a1 a2 (!bt184.2)) else (zar.j0 k l0 a1 a2 true))) = some r := H
 have A4 := zaa.mk A40
 clear A40
 replace H := Option.bind_eq_some_iff.mp H
 obtain ⟨⟨t184, t185⟩, A50, H⟩ := H
 replace H : (if t183 = true then (zar.j0 k l0 a1 a2 (!t185)) else (zar.j0 k l0 a1 a2 true)) = some r := H
 have A5 := zaa.mk A50
 clear A50
 have HC6 := zaa.mk H
 clear H
 go_enter Tryd.func21, Tryd.ntmps21
 go_upto_region 3 with (first | ((with_reducible refine zaA (f := 14) rfl ?_); refine zbn (some 17) rfl rfl Tryd.func14 k9 rfl #[.slice A0 l0.length c0, .string a1] rfl m9 ?_; (with_reducible refine (zbG.calls _ _ l0 a1 t182 t183 _ ?side1 ?side2 A4.out).mono ?_); (case side1 => repeat (first | exact HR0.out | (with_reducible refine Kd.zbe ?_ _) | (with_reducible refine Kd.zbj ?_ _) | (with_reducible refine Kd.zbz ?_))); (case side2 => exact HC0.out); rintro e w7 ⟨rfl, hb⟩; refine ⟨_, rfl, ?_⟩; have n0_ := zaa.mk (zaj (by repeat (first | (with_reducible first | exact HB.out | apply zad | apply zab | apply zae) | exact HB.out)) hb); clear HB; have HB := n0_; clear n0_; (try clear hb); (try clear hb2); (try clear hk); (try clear hi)) | ((with_reducible refine zaA (f := 14) rfl ?_); refine zbn (some 23) rfl rfl Tryd.func14 k9 rfl #[.slice A0 l0.length c0, .string a2] rfl m9 ?_; (with_reducible refine (zbG.calls _ _ l0 a2 t184 t185 _ ?side1 ?side2 A5.out).mono ?_); (case side1 => repeat (first | exact (Kd.zay HR0.out HB.out) | (with_reducible refine Kd.zbe ?_ _) | (with_reducible refine Kd.zbj ?_ _) | (with_reducible refine Kd.zbz ?_))); (case side2 => exact HC0.out); rintro e w8 ⟨rfl, hb⟩; refine ⟨_, rfl, ?_⟩; have n0_ := zaa.mk (zaj (by repeat (first | (with_reducible first | exact HB.out | apply zad | apply zab | apply zae) | exact HB.out)) hb); clear HB; have HB := n0_; clear n0_; (try clear hb); (try clear hb2); (try clear hk); (try clear hi)))
 (try simp only [Act.put, List.setIfInBounds_toArray, List.set_cons_zero, List.set_cons_succ])
 go_cut [31] (fun v31 wc => ∃ (kq : Nat) (x31_5 : Bool), v31 = .bool x31_5 ∧ zaa (zar.j0 kq l0 a1 a2 x31_5 = some r) ∧ zaa (kq ≤ k) ∧ zaa (Below w.heap.size w wc))
 case first =>
  have H := HC6.out
  clear HC6
  by_cases c9 : t183 = true
  ·
   subst c9
   have H1 : (zar.j0 k l0 a1 a2 (!t185)) = some r := by rw [if_pos rfl] at H; exact H
   clear H
   have H := H1
   clear H1
   have H' := zaa.mk H
   clear H
   go_wp2
   go_meet
   case rel => exact ⟨_, (!t185), (by first | rfl | (simp; done) | (simp [*]; done)), H', ⟨by first | omega | exact Nat.le_refl _⟩, ⟨by repeat (first | (with_reducible first | exact HB.out | apply zad | apply zab | apply zae) | exact HB.out)⟩⟩
  ·
   replace c9 := Bool.eq_false_iff.mpr c9
   subst c9
   have H1 : (zar.j0 k l0 a1 a2 true) = some r := by rw [if_neg (show ¬ (false = true) by decide)] at H; exact H
   clear H
   have H := H1
   clear H1
   have H' := zaa.mk H
   clear H
   go_wp2
   go_meet
   case rel => exact ⟨_, (true), (by first | rfl | (simp; done) | (simp [*]; done)), H', ⟨by first | omega | exact Nat.le_refl _⟩, ⟨by repeat (first | (with_reducible first | exact HB.out | apply zad | apply zab | apply zae) | exact HB.out)⟩⟩
 case rest =>
  clear HC6
  try clear c1
  try clear c2
  try clear p2
  try clear c9
  obtain ⟨kq, x31_5, rfl, HA, HJ5, HB⟩ := hcut
  cases kq with
  | zero => exact absurd HA.out (by simp [zar.j0])
  | succ kj5 =>
   have H := HA.out
   clear HA
   simp only [zar.j0] at H
   by_cases c10 : x31_5 = true
   ·
    subst c10
    have H1 : (some false) = some r := by rw [if_pos rfl] at H; exact H
    clear H
    have H := H1
    clear H1
    obtain rfl := Option.some.inj H
    go_wp2
    go_ret
    exact ⟨by first | rfl | (simp [zaF, zaG] <;> rfl) | (simp [*, zaF, zaG] <;> rfl), by repeat (first | (with_reducible first | exact HB.out | apply zad | apply zab | apply zae) | exact HB.out)⟩
   ·
    replace c10 := Bool.eq_false_iff.mpr c10
    subst c10
    have H1 : ((zal.f kj5 l0 a1).bind fun t186 => ((zal.f kj5 l0 a2).bind fun t189 => (zar.l0 kj5 t186 t189 (t189.length : Int) 0))) = some r := by rw [if_neg (show ¬ (false = true) by decide)] at H; exact H
    clear H
    have H := H1
    clear H1
    replace H := Option.bind_eq_some_iff.mp H
    obtain ⟨t186, A110, H⟩ := H
    replace H : ((zal.f kj5 l0 a2).bind fun t189 => (zar.l0 kj5 t186 t189 (t189.length : Int) 0)) = some r := H
    have A11 := zaa.mk A110
    clear A110
    replace H := Option.bind_eq_some_iff.mp H
    obtain ⟨t189, A120, H⟩ := H
    replace H : (zar.l0 kj5 t186 t189 (t189.length : Int) 0) = some r := H
    have A12 := zaa.mk A120
    clear A120
    have H' := zaa.mk H
    clear H
    go_wp2_with (first | ((with_reducible refine zaA (f := 41) rfl ?_); refine zbn (some 34) rfl rfl Tryd.func41 k9 rfl #[.slice A0 l0.length c0, .string a1] rfl m9 ?_; (with_reducible refine (zal.calls kj5 _ _ l0 a1 t186 _ ?side1 ?side2 A11.out).mono ?_); (case side1 => repeat (first | exact (Kd.zay HR0.out HB.out) | (with_reducible refine Kd.zbe ?_ _) | (with_reducible refine Kd.zbj ?_ _) | (with_reducible refine Kd.zbz ?_))); (case side2 => exact HC0.out); rintro e w13 ⟨v187, rfl, ho0, hb⟩; refine ⟨_, rfl, ?_⟩; have n0_ := zaa.mk (Kd.zbm ho0 (zaq (by repeat (first | (with_reducible first | exact HB.out | apply zad | apply zab | apply zae) | exact HB.out)))); have n1_ := zaa.mk (zaj (by repeat (first | (with_reducible first | exact HB.out | apply zad | apply zab | apply zae) | exact HB.out)) hb); clear HB; have HO188 := n0_; have HB := n1_; clear n0_ n1_; (try clear hb); (try clear hb2); (try clear hk); (try clear hi); (try clear ho0)) | ((with_reducible refine zaA (f := 41) rfl ?_); refine zbn (some 37) rfl rfl Tryd.func41 k9 rfl #[.slice A0 l0.length c0, .string a2] rfl m9 ?_; (with_reducible refine (zal.calls kj5 _ _ l0 a2 t189 _ ?side1 ?side2 A12.out).mono ?_); (case side1 => repeat (first | exact (Kd.zay HR0.out HB.out) | (with_reducible refine Kd.zbe ?_ _) | (with_reducible refine Kd.zbj ?_ _) | (with_reducible refine Kd.zbz ?_))); (case side2 => exact HC0.out); rintro e w14 ⟨v190, rfl, ho0, hb⟩; refine ⟨_, rfl, ?_⟩; have n0_ := zaa.mk (Kd.zcq (by (with_reducible repeat (first | apply Kd.zaH | apply Kd.zaN | apply Kd.zaX)); exact HO188.out) (Kd.zbA ho0) hb); have n1_ := zaa.mk (Kd.zbm (Kd.zdL ho0 (Kd.R_lt (by (with_reducible repeat (first | apply Kd.zaH | apply Kd.zaN | apply Kd.zaX)); exact HO188.out))) (zaq (by repeat (first | (with_reducible first | exact HB.out | apply zad | apply zab | apply zae) | exact HB.out)))); have n2_ := zaa.mk (zaj (by repeat (first | (with_reducible first | exact HB.out | apply zad | apply zab | apply zae) | exact HB.out)) hb); clear HO188; clear HB; have HO188 := n0_; have HO191 := n1_; have HB := n2_; clear n0_ n1_ n2_; (try clear hb); (try clear hb2); (try clear hk); (try clear hi); (try clear ho0); obtain ⟨Ao15, co15, eo15⟩ := Kd.zaR HO191.out; subst eo15))
    go_loopg [39] kj5 (fun kq v39 w' => ∃ (x39_2 : Int), v39 = .int .i64 x39_2 ∧ zaa (zar.l0 kq t186 t189 (t189.length : Int) x39_2 = some r) ∧ zaa (kq ≤ kj5) ∧ zaa (Kd.R k84 84 w' w.heap.size (fun k_ => some k_ ≠ ((.slice Ao15 t189.length co15) : Value).ownBlock) v187 t186) ∧ zaa (Kd.R k84 84 w' w.heap.size (fun k_ => some k_ ≠ (v187 : Value).ownBlock) (.slice Ao15 t189.length co15) t189) ∧ zaa (Below w.heap.size w w'))
    case atStart => exact ⟨(0), (by first | rfl | (simp; done) | (simp [*]; done)), H', ⟨Nat.le_refl _⟩, ⟨by (with_reducible repeat (first | apply Kd.zaH | apply Kd.zaN | apply Kd.zaX)); exact Kd.zaz HO188.out (fun _ hk => hk.2)⟩, ⟨by (with_reducible repeat (first | apply Kd.zaH | apply Kd.zaN | apply Kd.zaX)); exact Kd.zaz HO191.out (fun _ hk => hk.2)⟩, ⟨by repeat (first | (with_reducible first | exact HB.out | apply zad | apply zab | apply zae) | exact HB.out)⟩⟩
    case round =>
     clear H'
     try clear c1
     try clear c2
     try clear p2
     try clear c4
     try clear c9
     try clear c10
     try clear c14
     try clear p2
     obtain ⟨x39_2, rfl, HA, HK2, HO_11, HO_37, HB⟩ := hrel
     cases gk with
     | zero => exact absurd HA.out (by simp [zar.l0])
     | succ k2 =>
      have H := HA.out
      clear HA
      simp only [zar.l0] at H
      by_cases c16 : x39_2 < (t189.length : Int)
      ·
       rw [if_pos c16] at H
       have c16b0 : decide (x39_2 < (t189.length : Int)) = true := decide_eq_true c16
       clear c16
       by_cases c17 : 0 ≤ x39_2
       ·
        rw [if_pos c17] at H
        have c17b0 : decide (0 ≤ x39_2) = true := decide_eq_true c17
        clear c17
        by_cases c18 : x39_2 < (t189.length : Int)
        ·
         rw [if_pos c18] at H
         have c18b0 : decide (x39_2 < (t189.length : Int)) = true := decide_eq_true c18
         clear c18
         replace H := Option.bind_eq_some_iff.mp H
         obtain ⟨t194, A190, H⟩ := H
         replace H : (if t194 = true then (zar.l0 k2 t186 t189 (t189.length : Int) (wrap64 (x39_2 + 1))) else (some false)) = some r := H
         have A19 := zaa.mk A190
         clear A190
         by_cases c20 : t194 = true
         ·
          subst c20
          have H1 : (zar.l0 k2 t186 t189 (t189.length : Int) (wrap64 (x39_2 + 1))) = some r := by rw [if_pos rfl] at H; exact H
          clear H
          have H := H1
          clear H1
          have H' := zaa.mk H
          clear H
          have p192 : 0 ≤ (x39_2 : Int) := of_decide_eq_true (by first | (with_reducible assumption) | assumption)
          have q192 : x39_2 < (t189.length : Int) := of_decide_eq_true (by first | (with_reducible assumption) | assumption)
          obtain ⟨ad192, e192, hx192_0, hx192_1⟩ := zdY (Kd.zaU HO_37.out).2.2 x39_2 p192 q192
          cases e192
          replace p192 := eq_true p192
          replace q192 := eq_true q192
          go_wp2_with (first | ((with_reducible refine za6 (N := 13) rfl ?_); refine zbE ?hg (N := 13) ?hd (cs := #[.string (⟨#[]⟩ : ByteArray), .int .i64 0]) (t := 84) ?hr ?_; (case hd => rfl); (case hg => rfl); (case hr => first | (go_simp; done) | (go_simp; rfl)); intro gb193 hg w21 hbox hb; have n0_ := zaa.mk (Kd.zaY (Kd.zc1 (by (with_reducible repeat (first | apply Kd.zaH | apply Kd.zaN | apply Kd.zaX)); exact HO_11.out) gb193 (Nat.le_of_eq hg.symm)) hb); have n1_ := zaa.mk (Kd.zaY (Kd.zc1 (by (with_reducible repeat (first | apply Kd.zaH | apply Kd.zaN | apply Kd.zaX)); exact HO_37.out) gb193 (Nat.le_of_eq hg.symm)) hb); have n2_ := zaa.mk (zaj (by repeat (first | (with_reducible first | exact HB.out | apply zad | apply zab | apply zae) | exact HB.out)) hb); have n3_ := zaa.mk (hbox); have n4_ := zaa.mk ((by rw [hg]; exact (zaq (by repeat (first | (with_reducible first | exact HB.out | apply zad | apply zab | apply zae) | exact HB.out))) : w.heap.size ≤ gb193)); have n5_ := zaa.mk ((by rw [hg]; exact (zaq (by repeat (first | (with_reducible first | exact HB.out | apply zad | apply zab | apply zae) | exact HB.out))) : w.heap.size ≤ gb193)); clear HO_11; clear HO_37; clear HB; have HO_11 := n0_; have HO_37 := n1_; have HB := n2_; have BK193 := n3_; have GW193 := n4_; have GE193 := n5_; clear n0_ n1_ n2_ n3_ n4_ n5_; clear hb hbox hg; have hcz22_0 : w21.cell? ⟨gb193, 0, none⟩ = some (.string (⟨#[]⟩ : ByteArray)) := (zaZ BK193.out 0).trans rfl; have hcz22_1 : w21.cell? ⟨gb193, 1, none⟩ = some (.int .i64 0) := (zaZ BK193.out 1).trans rfl; have hfz22_0 := zaJ BK193.out 0; have hfz22_1 := zaJ BK193.out 1; obtain ⟨Ao23, co23, eo23⟩ := Kd.zaR HO_11.out; subst eo23) | ((with_reducible refine zaA (f := 42) rfl ?_); refine zbn (some 45) rfl rfl Tryd.func42 k9 rfl #[.slice Ao23 t186.length co23, .agg #[.string ((zaV t189 x39_2).f0), .int .i64 ((zaV t189 x39_2).f1)]] rfl m9 ?_; (with_reducible refine (zaW.calls k2 _ _ t186 ((zaV t189 x39_2).f0) ((zaV t189 x39_2).f1) true _ ?side1 ?side2 A19.out).mono ?_); (case side1 => refine (Kd.zaU (e := 84) (base := w.heap.size) (ok := fun k_ => (some k_ ≠ (.slice (some ad192) t189.length co15 : Value).ownBlock ∧ k_ ≠ gb193)) (n := t186.length) (c := co23) ?_).2.2; exact (by (with_reducible repeat (first | apply Kd.zaH | apply Kd.zaN | apply Kd.zaX)); exact (Kd.zaz (Kd.R_far (p := ⟨gb193, 1, none⟩) (Kd.R_far (p := ⟨gb193, 0, none⟩) (Kd.zaz HO_11.out (fun k_ hk => (⟨hk, hk.2⟩ : _ ∧ k_ ≠ gb193))) (fun _ hk => hk.2) (.string ((zaV t189 x39_2).f0))) (fun _ hk => hk.2) (.int .i64 ((zaV t189 x39_2).f1))) (fun _ h_ => h_.1)))); (case side2 => exact (Kd.zaU HO_11.out).2.1); rintro e w24 ⟨rfl, hb⟩; refine ⟨_, rfl, ?_⟩; have n0_ := zaa.mk (Kd.zaY (by (with_reducible repeat (first | apply Kd.zaH | apply Kd.zaN | apply Kd.zaX)); exact (Kd.zaz (Kd.R_far (p := ⟨gb193, 1, none⟩) (Kd.R_far (p := ⟨gb193, 0, none⟩) (Kd.zaz HO_11.out (fun k_ hk => (⟨hk, hk.2⟩ : _ ∧ k_ ≠ gb193))) (fun _ hk => hk.2) (.string ((zaV t189 x39_2).f0))) (fun _ hk => hk.2) (.int .i64 ((zaV t189 x39_2).f1))) (fun _ h_ => h_.1))) hb); have n1_ := zaa.mk (Kd.zaY (by (with_reducible repeat (first | apply Kd.zaH | apply Kd.zaN | apply Kd.zaX)); exact (Kd.zaz (Kd.R_far (p := ⟨gb193, 1, none⟩) (Kd.R_far (p := ⟨gb193, 0, none⟩) (Kd.zaz HO_37.out (fun k_ hk => (⟨hk, hk.2⟩ : _ ∧ k_ ≠ gb193))) (fun _ hk => hk.2) (.string ((zaV t189 x39_2).f0))) (fun _ hk => hk.2) (.int .i64 ((zaV t189 x39_2).f1))) (fun _ h_ => h_.1))) hb); have n2_ := zaa.mk (zb4 (g := gb193) (o := .cells #[.string ((zaV t189 x39_2).f0), .int .i64 ((zaV t189 x39_2).f1)] 84 (0, 0)) (by (with_reducible repeat (first | refine zaD ?_ _ | refine zaL ?_ | refine zaE ?_ _)); refine zaK (cs := #[.string ((zaV t189 x39_2).f0), .int .i64 0]) ?_ 1 _ rfl; (with_reducible repeat (first | refine zaD ?_ _ | refine zaL ?_ | refine zaE ?_ _)); refine zaK (cs := #[.string (⟨#[]⟩ : ByteArray), .int .i64 0]) ?_ 0 _ rfl; (with_reducible repeat (first | refine zaD ?_ _ | refine zaL ?_ | refine zaE ?_ _)); exact BK193.out) hb); have n3_ := zaa.mk (zaj (by repeat (first | (with_reducible first | exact HB.out | apply zad | apply zab | apply zae | refine zau ?_ GE193.out) | exact HB.out)) hb); clear HO_11; clear HO_37; clear BK193; clear HB; have HO_11 := n0_; have HO_37 := n1_; have BK193 := n2_; have HB := n3_; clear n0_ n1_ n2_ n3_; (try clear hb); (try clear hb2); (try clear hk); (try clear hi)))
          go_roundg k2
          case measure => have := HJ5.out; have := HK2.out; omega
          case rel => exact ⟨(wrap64 (x39_2 + 1)), (by first | rfl | (simp; done) | (simp [*]; done)), H', ⟨by have := HJ5.out; have := HK2.out; omega⟩, ⟨by (with_reducible repeat (first | apply Kd.zaH | apply Kd.zaN | apply Kd.zaX)); exact Kd.zaz HO_11.out (fun _ hk => hk.1)⟩, ⟨by (with_reducible repeat (first | apply Kd.zaH | apply Kd.zaN | apply Kd.zaX)); exact Kd.zaz HO_37.out (fun _ hk => hk.1)⟩, ⟨by repeat (first | (with_reducible first | exact HB.out | apply zad | apply zab | apply zae | refine zau ?_ GE193.out) | exact HB.out)⟩⟩
         ·
          replace c20 := Bool.eq_false_iff.mpr c20
          subst c20
          have H1 : (some false) = some r := by rw [if_neg (show ¬ (false = true) by decide)] at H; exact H
          clear H
          have H := H1
          clear H1
          obtain rfl := Option.some.inj H
          have p192 : 0 ≤ (x39_2 : Int) := of_decide_eq_true (by first | (with_reducible assumption) | assumption)
          have q192 : x39_2 < (t189.length : Int) := of_decide_eq_true (by first | (with_reducible assumption) | assumption)
          obtain ⟨ad192, e192, hx192_0, hx192_1⟩ := zdY (Kd.zaU HO_37.out).2.2 x39_2 p192 q192
          cases e192
          replace p192 := eq_true p192
          replace q192 := eq_true q192
          go_wp2_with (first | ((with_reducible refine za6 (N := 13) rfl ?_); refine zbE ?hg (N := 13) ?hd (cs := #[.string (⟨#[]⟩ : ByteArray), .int .i64 0]) (t := 84) ?hr ?_; (case hd => rfl); (case hg => rfl); (case hr => first | (go_simp; done) | (go_simp; rfl)); intro gb193 hg w25 hbox hb; have n0_ := zaa.mk (Kd.zaY (Kd.zc1 (by (with_reducible repeat (first | apply Kd.zaH | apply Kd.zaN | apply Kd.zaX)); exact HO_11.out) gb193 (Nat.le_of_eq hg.symm)) hb); have n1_ := zaa.mk (Kd.zaY (Kd.zc1 (by (with_reducible repeat (first | apply Kd.zaH | apply Kd.zaN | apply Kd.zaX)); exact HO_37.out) gb193 (Nat.le_of_eq hg.symm)) hb); have n2_ := zaa.mk (zaj (by repeat (first | (with_reducible first | exact HB.out | apply zad | apply zab | apply zae) | exact HB.out)) hb); have n3_ := zaa.mk (hbox); have n4_ := zaa.mk ((by rw [hg]; exact (zaq (by repeat (first | (with_reducible first | exact HB.out | apply zad | apply zab | apply zae) | exact HB.out))) : w.heap.size ≤ gb193)); have n5_ := zaa.mk ((by rw [hg]; exact (zaq (by repeat (first | (with_reducible first | exact HB.out | apply zad | apply zab | apply zae) | exact HB.out))) : w.heap.size ≤ gb193)); clear HO_11; clear HO_37; clear HB; have HO_11 := n0_; have HO_37 := n1_; have HB := n2_; have BK193 := n3_; have GW193 := n4_; have GE193 := n5_; clear n0_ n1_ n2_ n3_ n4_ n5_; clear hb hbox hg; have hcz26_0 : w25.cell? ⟨gb193, 0, none⟩ = some (.string (⟨#[]⟩ : ByteArray)) := (zaZ BK193.out 0).trans rfl; have hcz26_1 : w25.cell? ⟨gb193, 1, none⟩ = some (.int .i64 0) := (zaZ BK193.out 1).trans rfl; have hfz26_0 := zaJ BK193.out 0; have hfz26_1 := zaJ BK193.out 1; obtain ⟨Ao27, co27, eo27⟩ := Kd.zaR HO_11.out; subst eo27) | ((with_reducible refine zaA (f := 42) rfl ?_); refine zbn (some 45) rfl rfl Tryd.func42 k9 rfl #[.slice Ao27 t186.length co27, .agg #[.string ((zaV t189 x39_2).f0), .int .i64 ((zaV t189 x39_2).f1)]] rfl m9 ?_; (with_reducible refine (zaW.calls k2 _ _ t186 ((zaV t189 x39_2).f0) ((zaV t189 x39_2).f1) false _ ?side1 ?side2 A19.out).mono ?_); (case side1 => refine (Kd.zaU (e := 84) (base := w.heap.size) (ok := fun k_ => (some k_ ≠ (.slice (some ad192) t189.length co15 : Value).ownBlock ∧ k_ ≠ gb193)) (n := t186.length) (c := co27) ?_).2.2; exact (by (with_reducible repeat (first | apply Kd.zaH | apply Kd.zaN | apply Kd.zaX)); exact (Kd.zaz (Kd.R_far (p := ⟨gb193, 1, none⟩) (Kd.R_far (p := ⟨gb193, 0, none⟩) (Kd.zaz HO_11.out (fun k_ hk => (⟨hk, hk.2⟩ : _ ∧ k_ ≠ gb193))) (fun _ hk => hk.2) (.string ((zaV t189 x39_2).f0))) (fun _ hk => hk.2) (.int .i64 ((zaV t189 x39_2).f1))) (fun _ h_ => h_.1)))); (case side2 => exact (Kd.zaU HO_11.out).2.1); rintro e w28 ⟨rfl, hb⟩; refine ⟨_, rfl, ?_⟩; have n0_ := zaa.mk (Kd.zaY (by (with_reducible repeat (first | apply Kd.zaH | apply Kd.zaN | apply Kd.zaX)); exact (Kd.zaz (Kd.R_far (p := ⟨gb193, 1, none⟩) (Kd.R_far (p := ⟨gb193, 0, none⟩) (Kd.zaz HO_11.out (fun k_ hk => (⟨hk, hk.2⟩ : _ ∧ k_ ≠ gb193))) (fun _ hk => hk.2) (.string ((zaV t189 x39_2).f0))) (fun _ hk => hk.2) (.int .i64 ((zaV t189 x39_2).f1))) (fun _ h_ => h_.1))) hb); have n1_ := zaa.mk (Kd.zaY (by (with_reducible repeat (first | apply Kd.zaH | apply Kd.zaN | apply Kd.zaX)); exact (Kd.zaz (Kd.R_far (p := ⟨gb193, 1, none⟩) (Kd.R_far (p := ⟨gb193, 0, none⟩) (Kd.zaz HO_37.out (fun k_ hk => (⟨hk, hk.2⟩ : _ ∧ k_ ≠ gb193))) (fun _ hk => hk.2) (.string ((zaV t189 x39_2).f0))) (fun _ hk => hk.2) (.int .i64 ((zaV t189 x39_2).f1))) (fun _ h_ => h_.1))) hb); have n2_ := zaa.mk (zb4 (g := gb193) (o := .cells #[.string ((zaV t189 x39_2).f0), .int .i64 ((zaV t189 x39_2).f1)] 84 (0, 0)) (by (with_reducible repeat (first | refine zaD ?_ _ | refine zaL ?_ | refine zaE ?_ _)); refine zaK (cs := #[.string ((zaV t189 x39_2).f0), .int .i64 0]) ?_ 1 _ rfl; (with_reducible repeat (first | refine zaD ?_ _ | refine zaL ?_ | refine zaE ?_ _)); refine zaK (cs := #[.string (⟨#[]⟩ : ByteArray), .int .i64 0]) ?_ 0 _ rfl; (with_reducible repeat (first | refine zaD ?_ _ | refine zaL ?_ | refine zaE ?_ _)); exact BK193.out) hb); have n3_ := zaa.mk (zaj (by repeat (first | (with_reducible first | exact HB.out | apply zad | apply zab | apply zae | refine zau ?_ GE193.out) | exact HB.out)) hb); clear HO_11; clear HO_37; clear BK193; clear HB; have HO_11 := n0_; have HO_37 := n1_; have BK193 := n2_; have HB := n3_; clear n0_ n1_ n2_ n3_; (try clear hb); (try clear hb2); (try clear hk); (try clear hi)))
          go_ret
          exact ⟨by first | rfl | (simp [zaF, zaG] <;> rfl) | (simp [*, zaF, zaG] <;> rfl), by repeat (first | (with_reducible first | exact HB.out | apply zad | apply zab | apply zae | refine zau ?_ GE193.out) | exact HB.out)⟩
        ·
         rw [if_neg c18] at H
         exact absurd H s9
       ·
        rw [if_neg c17] at H
        exact absurd H s9
      ·
       rw [if_neg c16] at H
       have c16b0 : decide (x39_2 < (t189.length : Int)) = false := decide_eq_false c16
       clear c16
       obtain rfl := Option.some.inj H
       go_wp2
       go_ret
       exact ⟨by first | rfl | (simp [zaF, zaG] <;> rfl) | (simp [*, zaF, zaG] <;> rfl), by repeat (first | (with_reducible first | exact HB.out | apply zad | apply zab | apply zae) | exact HB.out)⟩
open Go.Proofs.YtfhgmebhdchegaaDoorTab in
def zat.hs (k : Nat) (l0 : List (S43)) (s u : ByteArray) : Bool := (zar.f k l0 s u).getD false
open Go.Proofs.YtfhgmebhdchegaaDoorTab in
def zat.ok (k : Nat) (l0 : List (S43)) : Bool :=
 decide (l0.length ≤ 40) && zaO.small l0 && l0.all fun a => l0.all fun b => (zar.f k l0 a.f0 b.f0).isSome && (!(zat.hs k l0 a.f0 b.f0) || wfit l0 a.f0 b.f0)
open Go.Proofs.YtfhgmebhdchegaaDoorTab in
def zat.f (k : Nat) (l0 : List (S43)) (a1 a2 : ByteArray) : Option Bool :=
 (zbb.f k l0).bind fun bm => if bm = true then (za9.f k l0 a1).bind fun bs => if bs = true then (za9.f k l0 a2).bind fun bu => if bu = true then (if zat.ok k l0 = true then (allF l0 (zat.hs k l0) k []).map fun R => goesB l0 R a1 a2 else none) else some false else some false else some false
open Go.Proofs.YtfhgmebhdchegaaDoorTab in
theorem zat.mem {l0 : List (S43)} {i : Nat} (h : i < l0.length) : clsAt l0 i ∈ l0 := by
 unfold clsAt zbF
 rw [Int.toNat_natCast, List.getD_eq_getElem?_getD, List.getElem?_eq_getElem h]
 exact List.getElem_mem h
open Go.Proofs.YtfhgmebhdchegaaDoorTab in
theorem zat.ok_is {k : Nat} {l0 : List (S43)} (h : zat.ok k l0 = true) : l0.length ≤ 40 ∧ zaO.small l0 = true ∧ ∀ a ∈ l0, ∀ b ∈ l0, (∃ r, zar.f k l0 a.f0 b.f0 = some r ∧ zat.hs k l0 a.f0 b.f0 = r ∧ (r = true → wfit l0 a.f0 b.f0 = true)) := by
 unfold zat.ok at h
 simp only [Bool.and_eq_true, decide_eq_true_eq, List.all_eq_true] at h
 refine ⟨h.1.1, h.1.2, fun a ha b hb => ?_⟩
 obtain ⟨h1, h2⟩ := h.2 a ha b hb
 obtain ⟨r, hr⟩ := Option.isSome_iff_exists.1 h1
 have h3 : zat.hs k l0 a.f0 b.f0 = r := by unfold zat.hs; rw [hr]; rfl
 refine ⟨r, hr, h3, fun e => ?_⟩
 rw [h3, e] at h2
 simpa using h2
open Go.Proofs.YtfhgmebhdchegaaDoorTab in
theorem zat.zhd {k : Nat} {l0 : List (S43)} (h : zat.ok k l0 = true) : zat.ok (k + 1) l0 = true ∧ ∀ a ∈ l0, ∀ b ∈ l0, zat.hs k l0 a.f0 b.f0 = zat.hs (k + 1) l0 a.f0 b.f0 := by
 obtain ⟨h1, h2, h3⟩ := zat.ok_is h
 have h4 : ∀ a ∈ l0, ∀ b ∈ l0, zat.hs k l0 a.f0 b.f0 = zat.hs (k + 1) l0 a.f0 b.f0 ∧ ((zar.f (k + 1) l0 a.f0 b.f0).isSome && (!(zat.hs (k + 1) l0 a.f0 b.f0) || wfit l0 a.f0 b.f0)) = true := fun a ha b hb => by
  obtain ⟨r, hr, h5, h6⟩ := h3 a ha b hb
  have h7 := zar.mono l0 a.f0 b.f0 k r hr
  have h8 : zat.hs (k + 1) l0 a.f0 b.f0 = r := by unfold zat.hs; rw [h7]; rfl
  refine ⟨h5.trans h8.symm, ?_⟩
  rw [h7, h8]
  cases r with
  | false => rfl
  | true => rw [h6 rfl]; rfl
 refine ⟨?_, fun a ha b hb => (h4 a ha b hb).1⟩
 have e : (l0.all fun a => l0.all fun b => (zar.f (k + 1) l0 a.f0 b.f0).isSome && (!(zat.hs (k + 1) l0 a.f0 b.f0) || wfit l0 a.f0 b.f0)) = true := List.all_eq_true.2 fun a ha => List.all_eq_true.2 fun b hb => (h4 a ha b hb).2
 unfold zat.ok
 rw [decide_eq_true h1, h2, e]; rfl
open Go.Proofs.YtfhgmebhdchegaaDoorTab in
theorem zat.mono : ∀ l0 a1 a2 k, LeO (zat.f k l0 a1 a2) (zat.f (k + 1) l0 a1 a2) := by
 intro l0 a1 a2 k
 unfold zat.f
 refine LeO.bind (zbb.mono l0 k) fun bm => LeO.ite (LeO.bind (za9.mono l0 a1 k) fun bs => LeO.ite (LeO.bind (za9.mono l0 a2 k) fun bu => LeO.ite ?_ (LeO.refl _)) (LeO.refl _)) (LeO.refl _)
 intro r h
 by_cases ho : zat.ok k l0 = true
 ·
  obtain ⟨h1, h2⟩ := zat.zhd ho
  rw [if_pos ho] at h
  rw [if_pos h1]
  obtain ⟨R, hR, rfl⟩ := Option.map_eq_some_iff.1 h
  rw [zfM l0 _ _ (fun p q hp hq => h2 _ (zat.mem hp) _ (zat.mem hq))] at hR
  rw [zer l0 _ _ _ _ hR]; rfl
 ·
  rw [if_neg ho] at h; cases h
open Go.Proofs.YtfhgmebhdchegaaDoorTab in
theorem zat.calls (k : Nat) (A0 : Option Addr) (c0 : Nat) (l0 : List (S43)) (a1 a2 : ByteArray) (r : Bool) (w : World) (hr0 : Kd.C k43 w A0 l0.length l0) (hc0 : l0.length ≤ c0) (h : zat.f k l0 a1 a2 = some r) (hG : Go.Proofs.YtfhgmebhdchegaaDoorTab.GW w := by exact Go.Proofs.YtfhgmebhdchegaaDoorTab.GW.below hG (by repeat (first | (with_reducible first | exact HB.out | apply zad | apply zab | apply zae) | exact HB.out | refine zau ?_ (zaa.out (by assumption)) | exact Below.refl _ _))) :
  Calls Tryd.prog 15 #[.slice A0 l0.length c0, .string a1, .string a2] w fun e w' => e = .returned (.bool r) ∧ Below w.heap.size w w' := by
 unfold zat.f at h
 obtain ⟨bm, hm, h⟩ := Option.bind_eq_some_iff.1 h
 have cm := zbb.calls k A0 c0 l0 bm w hr0 hc0 hm (hG := hG)
 have ct : ∀ (a : ByteArray) (b : Bool), za9.f k l0 a = some b → ∀ w', Below w.heap.size w w' → Calls Tryd.prog 29 #[.slice A0 l0.length c0, .string a] w' fun e w'' => e = .returned (.bool b) ∧ Below w'.heap.size w' w'' := fun a b hb w' hw =>
  za9.calls k A0 c0 l0 a b w' (Kd.zay hr0 hw) hc0 hb (hG := GW.below hG hw)
 cases bm with
 | false =>
  rw [if_neg d9] at h
  cases h
  exact zcG A0 c0 l0 a1 a2 (fun _ _ => false) 0 [] false false false w cm (fun e => by cases e) (fun e => by cases e) (fun e => by cases e)
 | true =>
  rw [if_pos rfl] at h
  obtain ⟨bs, hs, h⟩ := Option.bind_eq_some_iff.1 h
  cases bs with
  | false =>
   rw [if_neg d9] at h
   cases h
   exact zcG A0 c0 l0 a1 a2 (fun _ _ => false) 0 [] true false false w cm (fun _ => ct a1 _ hs) (fun _ e => by cases e) (fun _ e => by cases e)
  | true =>
   rw [if_pos rfl] at h
   obtain ⟨bu, hu, h⟩ := Option.bind_eq_some_iff.1 h
   cases bu with
   | false =>
    rw [if_neg d9] at h
    cases h
    exact zcG A0 c0 l0 a1 a2 (fun _ _ => false) 0 [] true true false w cm (fun _ => ct a1 _ hs) (fun _ _ => ct a2 _ hu) (fun _ _ e => by cases e)
   | true =>
    rw [if_pos rfl] at h
    by_cases ho : zat.ok k l0 = true
    ·
     rw [if_pos ho] at h
     obtain ⟨R, hR, rfl⟩ := Option.map_eq_some_iff.1 h
     obtain ⟨h1, h2, h3⟩ := zat.ok_is ho
     refine zcG A0 c0 l0 a1 a2 (zat.hs k l0) k R true true true w cm (fun _ => ct a1 _ hs) (fun _ _ => ct a2 _ hu) (fun _ _ _ => ⟨⟨hr0, h1, zaO.zd8 h2, fun w' hw p q hp hq => ?_, fun p q hp hq e => ?_⟩, hR⟩)
     ·
      obtain ⟨r, hr, h4, _⟩ := h3 _ (zat.mem hp) _ (zat.mem hq)
      rw [h4]
      exact zar.calls k A0 c0 l0 _ _ r w' (Kd.zay hr0 hw) hc0 hr
     ·
      obtain ⟨r, hr, h4, h5⟩ := h3 _ (zat.mem hp) _ (zat.mem hq)
      exact h5 (h4.symm.trans e)
    ·
     rw [if_neg ho] at h; cases h
def zac.f (k : Nat) (a0 : ByteArray) (a1 : ByteArray) : Option (Bool) := (zak.f).bind fun t199 => ((zat.f k t199 a0 a1).bind fun t202 => (some t202))
theorem zac.mono : ∀ a0 a1 k, LeO (zac.f k a0 a1) (zac.f (k + 1) a0 a1) := by
 intro a0 a1 k
 unfold zac.f
 repeat' first
   | (with_reducible exact zat.mono _ _ _ _)
   | (with_reducible exact LeO.refl _)
   | (with_reducible exact LeO.none _)
   | (with_reducible refine LeO.ite ?_ ?_)
   | (with_reducible refine LeO.bind ?_ (fun _ => ?_))
   | exact zat.mono _ _ _ _
   | exact LeO.none _
   | refine LeO.ite ?_ ?_
   | refine LeO.bind ?_ (fun _ => ?_)
theorem zac.calls (k : Nat) (a0 : ByteArray) (a1 : ByteArray) (r : Bool) (w : World) (h : zac.f k a0 a1 = some r) (hG : Go.Proofs.YtfhgmebhdchegaaDoorTab.GW w := by exact Go.Proofs.YtfhgmebhdchegaaDoorTab.GW.below hG (by repeat (first | (with_reducible first | exact HB.out | apply zad | apply zab | apply zae) | exact HB.out | refine zau ?_ (zaa.out (by assumption)) | exact Below.refl _ _))) :
  Calls Tryd.prog 7 #[.string a0, .string a1] w fun e w' => e = .returned (.bool r) ∧ Below w.heap.size w w' := by
 have HB := zaa.mk (Below.refl w.heap.size w)
 have H : ((zak.f).bind fun t199 => ((zat.f k t199 a0 a1).bind fun t202 => (some t202))) = some r := h
 clear h
 replace H := Option.bind_eq_some_iff.mp H
 obtain ⟨t199, A30, H⟩ := H
 replace H : ((zat.f k t199 a0 a1).bind fun t202 => (some t202)) = some r := H
 have A3 := zaa.mk A30
 clear A30
 replace H := Option.bind_eq_some_iff.mp H
 obtain ⟨t202, A40, H⟩ := H
 replace H : (some t202) = some r := H
 have A4 := zaa.mk A40
 clear A40
 obtain rfl := Option.some.inj H
 go_enter Tryd.func7, Tryd.ntmps7
 go_wp2_with (first | ((with_reducible refine zaA (f := 10) rfl ?_); refine zbn (some 5) rfl rfl Tryd.func10 k9 rfl #[] rfl m9 ?_; (with_reducible refine (zak.calls  t199 _ A3.out).mono ?_); rintro e w5 ⟨v200, rfl, ho0, hb⟩; refine ⟨_, rfl, ?_⟩; have n0_ := zaa.mk (Kd.zch (Kd.zcb (ok' := fun k_ => True) ho0 (fun k_ hk_ => trivial)) (zaq (by repeat (first | (with_reducible first | exact HB.out | apply zad | apply zab | apply zae) | exact HB.out)))); have n1_ := zaa.mk (zaj (by repeat (first | (with_reducible first | exact HB.out | apply zad | apply zab | apply zae) | exact HB.out)) hb); clear HB; have HO201 := n0_; have HB := n1_; clear n0_ n1_; (try clear hb); (try clear hb2); (try clear hk); (try clear hi); (try clear ho0); obtain ⟨Ao6, co6, eo6⟩ := Kd.zcs HO201.out; subst eo6) | ((with_reducible refine zaA (f := 15) rfl ?_); refine zbn (some 8) rfl rfl Tryd.func15 k9 rfl #[.slice Ao6 t199.length co6, .string a0, .string a1] rfl m9 ?_; (with_reducible refine (zat.calls k _ _ t199 a0 a1 t202 _ ?side1 ?side2 A4.out).mono ?_); (case side1 => repeat (first | exact (Kd.zbD HO201.out).2.2 | (with_reducible refine Kd.zbe ?_ _) | (with_reducible refine Kd.zbj ?_ _) | (with_reducible refine Kd.zbz ?_))); (case side2 => exact (Kd.zbD HO201.out).2.1); rintro e w7 ⟨rfl, hb⟩; refine ⟨_, rfl, ?_⟩; have n0_ := zaa.mk (Kd.zb3 (by (with_reducible repeat (first | apply Kd.zaS | apply Kd.zaT | apply Kd.zbc)); exact HO201.out) hb); have n1_ := zaa.mk (zaj (by repeat (first | (with_reducible first | exact HB.out | apply zad | apply zab | apply zae) | exact HB.out)) hb); clear HO201; clear HB; have HO201 := n0_; have HB := n1_; clear n0_ n1_; (try clear hb); (try clear hb2); (try clear hk); (try clear hi)))
 go_ret
 exact ⟨by first | rfl | (simp [zaF, zaG] <;> rfl) | (simp [*, zaF, zaG] <;> rfl), by repeat (first | (with_reducible first | exact HB.out | apply zad | apply zab | apply zae) | exact HB.out)⟩
def zao.f (k : Nat) (l0 : List (S43)) (a1 : ByteArray) (a2 : ByteArray) : Option (Bool) := (zbb.f k l0).bind fun t203 => (if t203 = true then ((zar.f k l0 a1 a2).bind fun t204 => (some t204)) else (some false))
theorem zao.mono : ∀ a0 a1 a2 k, LeO (zao.f k a0 a1 a2) (zao.f (k + 1) a0 a1 a2) := by
 intro a0 a1 a2 k
 unfold zao.f
 repeat' first
   | (with_reducible exact zar.mono _ _ _ _)
   | (with_reducible exact zbb.mono _ _)
   | (with_reducible exact LeO.refl _)
   | (with_reducible exact LeO.none _)
   | (with_reducible refine LeO.ite ?_ ?_)
   | (with_reducible refine LeO.bind ?_ (fun _ => ?_))
   | exact zar.mono _ _ _ _
   | exact zbb.mono _ _
   | exact LeO.none _
   | refine LeO.ite ?_ ?_
   | refine LeO.bind ?_ (fun _ => ?_)
theorem zao.calls (k : Nat) (A0 : Option Addr) (c0 : Nat) (l0 : List (S43)) (a1 : ByteArray) (a2 : ByteArray) (r : Bool) (w : World) (hr0 : Kd.C k43 w A0 l0.length l0) (hc0 : l0.length ≤ c0) (h : zao.f k l0 a1 a2 = some r) (hG : Go.Proofs.YtfhgmebhdchegaaDoorTab.GW w := by exact Go.Proofs.YtfhgmebhdchegaaDoorTab.GW.below hG (by repeat (first | (with_reducible first | exact HB.out | apply zad | apply zab | apply zae) | exact HB.out | refine zau ?_ (zaa.out (by assumption)) | exact Below.refl _ _))) :
  Calls Tryd.prog 9 #[.slice A0 l0.length c0, .string a1, .string a2] w fun e w' => e = .returned (.bool r) ∧ Below w.heap.size w w' := by
 have HR0 := zaa.mk hr0
 have HC0 := zaa.mk hc0
 clear hr0 hc0
 have HB := zaa.mk (Below.refl w.heap.size w)
 have H : ((zbb.f k l0).bind fun t203 => (if t203 = true then ((zar.f k l0 a1 a2).bind fun t204 => (some t204)) else (some false))) = some r := h
 clear h
 replace H := Option.bind_eq_some_iff.mp H
 obtain ⟨t203, A40, H⟩ := H
 replace H : (if t203 = true then ((zar.f k l0 a1 a2).bind fun t204 => (some t204)) else (some false)) = some r := H
 have A4 := zaa.mk A40
 clear A40
 by_cases c5 : t203 = true
 ·
  subst c5
  have H1 : ((zar.f k l0 a1 a2).bind fun t204 => (some t204)) = some r := by rw [if_pos rfl] at H; exact H
  clear H
  have H := H1
  clear H1
  replace H := Option.bind_eq_some_iff.mp H
  obtain ⟨t204, A60, H⟩ := H
  replace H : (some t204) = some r := H
  have A6 := zaa.mk A60
  clear A60
  obtain rfl := Option.some.inj H
  go_enter Tryd.func9, Tryd.ntmps9
  go_wp2_with (first | ((with_reducible refine zaA (f := 20) rfl ?_); refine zbn (some 8) rfl rfl Tryd.func20 k9 rfl #[.slice A0 l0.length c0] rfl m9 ?_; (with_reducible refine (zbb.calls k _ _ l0 true _ ?side1 ?side2 A4.out).mono ?_); (case side1 => repeat (first | exact HR0.out | (with_reducible refine Kd.zbe ?_ _) | (with_reducible refine Kd.zbj ?_ _) | (with_reducible refine Kd.zbz ?_))); (case side2 => exact HC0.out); rintro e w7 ⟨rfl, hb⟩; refine ⟨_, rfl, ?_⟩; have n0_ := zaa.mk (zaj (by repeat (first | (with_reducible first | exact HB.out | apply zad | apply zab | apply zae) | exact HB.out)) hb); clear HB; have HB := n0_; clear n0_; (try clear hb); (try clear hb2); (try clear hk); (try clear hi)) | (go_at_call 21; (with_reducible refine (zar.calls k _ _ l0 a1 a2 t204 _ ?side1 ?side2 A6.out).mono ?_); (case side1 => repeat (first | exact (Kd.zay HR0.out HB.out) | (with_reducible refine Kd.zbe ?_ _) | (with_reducible refine Kd.zbj ?_ _) | (with_reducible refine Kd.zbz ?_))); (case side2 => exact HC0.out); rintro e w8 ⟨rfl, hb⟩; have n0_ := zaa.mk (zaj (by repeat (first | (with_reducible first | exact HB.out | apply zad | apply zab | apply zae) | exact HB.out)) hb); clear HB; have HB := n0_; clear n0_; (try clear hb); (try clear hb2); (try clear hk); (try clear hi)))
  go_ret
  exact ⟨by first | rfl | (simp [zaF, zaG] <;> rfl) | (simp [*, zaF, zaG] <;> rfl), by repeat (first | (with_reducible first | exact HB.out | apply zad | apply zab | apply zae) | exact HB.out)⟩
 ·
  replace c5 := Bool.eq_false_iff.mpr c5
  subst c5
  have H1 : (some false) = some r := by rw [if_neg (show ¬ (false = true) by decide)] at H; exact H
  clear H
  have H := H1
  clear H1
  obtain rfl := Option.some.inj H
  go_enter Tryd.func9, Tryd.ntmps9
  go_wp2_with (first | ((with_reducible refine zaA (f := 20) rfl ?_); refine zbn (some 8) rfl rfl Tryd.func20 k9 rfl #[.slice A0 l0.length c0] rfl m9 ?_; (with_reducible refine (zbb.calls k _ _ l0 false _ ?side1 ?side2 A4.out).mono ?_); (case side1 => repeat (first | exact HR0.out | (with_reducible refine Kd.zbe ?_ _) | (with_reducible refine Kd.zbj ?_ _) | (with_reducible refine Kd.zbz ?_))); (case side2 => exact HC0.out); rintro e w9 ⟨rfl, hb⟩; refine ⟨_, rfl, ?_⟩; have n0_ := zaa.mk (zaj (by repeat (first | (with_reducible first | exact HB.out | apply zad | apply zab | apply zae) | exact HB.out)) hb); clear HB; have HB := n0_; clear n0_; (try clear hb); (try clear hb2); (try clear hk); (try clear hi)))
  go_ret
  exact ⟨by first | rfl | (simp [zaF, zaG] <;> rfl) | (simp [*, zaF, zaG] <;> rfl), by repeat (first | (with_reducible first | exact HB.out | apply zad | apply zab | apply zae) | exact HB.out)⟩
def zaP.f (k : Nat)  : Option (Bool) := (zac.f k (⟨#[65]⟩ : ByteArray) (⟨#[66]⟩ : ByteArray)).bind fun t205 => (if t205 = true then ((zac.f k (⟨#[65]⟩ : ByteArray) (⟨#[67]⟩ : ByteArray)).bind fun t206 => (if t206 = true then (none) else ((zac.f k (⟨#[69]⟩ : ByteArray) (⟨#[70]⟩ : ByteArray)).bind fun t207 => (if t207 = true then ((zac.f k (⟨#[63]⟩ : ByteArray) (⟨#[65]⟩ : ByteArray)).bind fun t208 => (if t208 = true then ((zac.f k (⟨#[105, 110, 116]⟩ : ByteArray) (⟨#[114, 101, 97, 108]⟩ : ByteArray)).bind fun t209 => (if t209 = true then (none) else ((zak.f).bind fun t210 => ((zao.f k t210 (⟨#[68]⟩ : ByteArray) (⟨#[65]⟩ : ByteArray)).bind fun t213 => (if t213 = true then ((zak.f).bind fun t214 => ((zao.f k t214 (⟨#[65]⟩ : ByteArray) (⟨#[68]⟩ : ByteArray)).bind fun t217 => (some (!t217)))) else (none)))))) else (none))) else (none))))) else (none))
theorem zaP.mono : ∀ k, LeO (zaP.f k ) (zaP.f (k + 1) ) := by
 intro  k
 unfold zaP.f
 repeat' first
   | (with_reducible exact zac.mono _ _ _)
   | (with_reducible exact zao.mono _ _ _ _)
   | (with_reducible exact LeO.refl _)
   | (with_reducible exact LeO.none _)
   | (with_reducible refine LeO.ite ?_ ?_)
   | (with_reducible refine LeO.bind ?_ (fun _ => ?_))
   | exact zac.mono _ _ _
   | exact zao.mono _ _ _ _
   | exact LeO.none _
   | refine LeO.ite ?_ ?_
   | refine LeO.bind ?_ (fun _ => ?_)
theorem zaP.calls (k : Nat)  (r : Bool) (w : World) (h : zaP.f k  = some r) (hG : Go.Proofs.YtfhgmebhdchegaaDoorTab.GW w := by exact Go.Proofs.YtfhgmebhdchegaaDoorTab.GW.below hG (by repeat (first | (with_reducible first | exact HB.out | apply zad | apply zab | apply zae) | exact HB.out | refine zau ?_ (zaa.out (by assumption)) | exact Below.refl _ _))) :
  Calls Tryd.prog 8 #[] w fun e w' => e = .returned (.bool r) ∧ Below w.heap.size w w' := by
 have HB := zaa.mk (Below.refl w.heap.size w)
 have H : ((zac.f k (⟨#[65]⟩ : ByteArray) (⟨#[66]⟩ : ByteArray)).bind fun t205 => (if t205 = true then ((zac.f k (⟨#[65]⟩ : ByteArray) (⟨#[67]⟩ : ByteArray)).bind fun t206 => (if t206 = true then (none) else ((zac.f k (⟨#[69]⟩ : ByteArray) (⟨#[70]⟩ : ByteArray)).bind fun t207 => (if t207 = true then ((zac.f k (⟨#[63]⟩ : ByteArray) (⟨#[65]⟩ : ByteArray)).bind fun t208 => (if t208 = true then ((zac.f k (⟨#[105, 110, 116]⟩ : ByteArray) (⟨#[114, 101, 97, 108]⟩ : ByteArray)).bind fun t209 => (if t209 = true then (none) else ((zak.f).bind fun t210 => ((zao.f k t210 (⟨#[68]⟩ : ByteArray) (⟨#[65]⟩ : ByteArray)).bind fun t213 => (if t213 = true then ((zak.f).bind fun t214 => ((zao.f k t214 (⟨#[65]⟩ : ByteArray) (⟨#[68]⟩ : ByteArray)).bind fun t217 => (some (!t217)))) else (none)))))) else (none))) else (none))))) else (none))) = some r := h
 clear h
 replace H := Option.bind_eq_some_iff.mp H
 obtain ⟨t205, A10, H⟩ := H
 replace H : (if t205 = true then ((zac.f k (⟨#[65]⟩ : ByteArray) (⟨#[67]⟩ : ByteArray)).bind fun t206 => (if t206 = true then (none) else ((zac.f k (⟨#[69]⟩ : ByteArray) (⟨#[70]⟩ : ByteArray)).bind fun t207 => (if t207 = true then ((zac.f k (⟨#[63]⟩ : ByteArray) (⟨#[65]⟩ : ByteArray)).bind fun t208 => (if t208 = true then ((zac.f k (⟨#[105, 110, 116]⟩ : ByteArray) (⟨#[114, 101, 97, 108]⟩ : ByteArray)).bind fun t209 => (if t209 = true then (none) else ((zak.f).bind fun t210 => ((zao.f k t210 (⟨#[68]⟩ : ByteArray) (⟨#[65]⟩ : ByteArray)).bind fun t213 => (if t213 = true then ((zak.f).bind fun t214 => ((zao.f k t214 (⟨#[65]⟩ : ByteArray) (⟨#[68]⟩ : ByteArray)).bind fun t217 => (some (!t217)))) else (none)))))) else (none))) else (none))))) else (none)) = some r := H
 have A1 := zaa.mk A10
 clear A10
 by_cases c2 : t205 = true
 ·
  subst c2
  have H1 : ((zac.f k (⟨#[65]⟩ : ByteArray) (⟨#[67]⟩ : ByteArray)).bind fun t206 => (if t206 = true then (none) else ((zac.f k (⟨#[69]⟩ : ByteArray) (⟨#[70]⟩ : ByteArray)).bind fun t207 => (if t207 = true then ((zac.f k (⟨#[63]⟩ : ByteArray) (⟨#[65]⟩ : ByteArray)).bind fun t208 => (if t208 = true then ((zac.f k (⟨#[105, 110, 116]⟩ : ByteArray) (⟨#[114, 101, 97, 108]⟩ : ByteArray)).bind fun t209 => (if t209 = true then (none) else ((zak.f).bind fun t210 => ((zao.f k t210 (⟨#[68]⟩ : ByteArray) (⟨#[65]⟩ : ByteArray)).bind fun t213 => (if t213 = true then ((zak.f).bind fun t214 => ((zao.f k t214 (⟨#[65]⟩ : ByteArray) (⟨#[68]⟩ : ByteArray)).bind fun t217 => (some (!t217)))) else (none)))))) else (none))) else (none))))) = some r := by rw [if_pos rfl] at H; exact H
  clear H
  have H := H1
  clear H1
  replace H := Option.bind_eq_some_iff.mp H
  obtain ⟨t206, A30, H⟩ := H
  replace H : (if t206 = true then (none) else ((zac.f k (⟨#[69]⟩ : ByteArray) (⟨#[70]⟩ : ByteArray)).bind fun t207 => (if t207 = true then ((zac.f k (⟨#[63]⟩ : ByteArray) (⟨#[65]⟩ : ByteArray)).bind fun t208 => (if t208 = true then ((zac.f k (⟨#[105, 110, 116]⟩ : ByteArray) (⟨#[114, 101, 97, 108]⟩ : ByteArray)).bind fun t209 => (if t209 = true then (none) else ((zak.f).bind fun t210 => ((zao.f k t210 (⟨#[68]⟩ : ByteArray) (⟨#[65]⟩ : ByteArray)).bind fun t213 => (if t213 = true then ((zak.f).bind fun t214 => ((zao.f k t214 (⟨#[65]⟩ : ByteArray) (⟨#[68]⟩ : ByteArray)).bind fun t217 => (some (!t217)))) else (none)))))) else (none))) else (none)))) = some r := H
  have A3 := zaa.mk A30
  clear A30
  by_cases c4 : t206 = true
  ·
   subst c4
   have H1 : (none) = some r := by rw [if_pos rfl] at H; exact H
   clear H
   have H := H1
   clear H1
   exact absurd H s9
  ·
   replace c4 := Bool.eq_false_iff.mpr c4
   subst c4
   have H1 : ((zac.f k (⟨#[69]⟩ : ByteArray) (⟨#[70]⟩ : ByteArray)).bind fun t207 => (if t207 = true then ((zac.f k (⟨#[63]⟩ : ByteArray) (⟨#[65]⟩ : ByteArray)).bind fun t208 => (if t208 = true then ((zac.f k (⟨#[105, 110, 116]⟩ : ByteArray) (⟨#[114, 101, 97, 108]⟩ : ByteArray)).bind fun t209 => (if t209 = true then (none) else ((zak.f).bind fun t210 => ((zao.f k t210 (⟨#[68]⟩ : ByteArray) (⟨#[65]⟩ : ByteArray)).bind fun t213 => (if t213 = true then ((zak.f).bind fun t214 => ((zao.f k t214 (⟨#[65]⟩ : ByteArray) (⟨#[68]⟩ : ByteArray)).bind fun t217 => (some (!t217)))) else (none)))))) else (none))) else (none))) = some r := by rw [if_neg (show ¬ (false = true) by decide)] at H; exact H
   clear H
   have H := H1
   clear H1
   replace H := Option.bind_eq_some_iff.mp H
   obtain ⟨t207, A50, H⟩ := H
   replace H : (if t207 = true then ((zac.f k (⟨#[63]⟩ : ByteArray) (⟨#[65]⟩ : ByteArray)).bind fun t208 => (if t208 = true then ((zac.f k (⟨#[105, 110, 116]⟩ : ByteArray) (⟨#[114, 101, 97, 108]⟩ : ByteArray)).bind fun t209 => (if t209 = true then (none) else ((zak.f).bind fun t210 => ((zao.f k t210 (⟨#[68]⟩ : ByteArray) (⟨#[65]⟩ : ByteArray)).bind fun t213 => (if t213 = true then ((zak.f).bind fun t214 => ((zao.f k t214 (⟨#[65]⟩ : ByteArray) (⟨#[68]⟩ : ByteArray)).bind fun t217 => (some (!t217)))) else (none)))))) else (none))) else (none)) = some r := H
   have A5 := zaa.mk A50
   clear A50
   by_cases c6 : t207 = true
   ·
    subst c6
    have H1 : ((zac.f k (⟨#[63]⟩ : ByteArray) (⟨#[65]⟩ : ByteArray)).bind fun t208 => (if t208 = true then ((zac.f k (⟨#[105, 110, 116]⟩ : ByteArray) (⟨#[114, 101, 97, 108]⟩ : ByteArray)).bind fun t209 => (if t209 = true then (none) else ((zak.f).bind fun t210 => ((zao.f k t210 (⟨#[68]⟩ : ByteArray) (⟨#[65]⟩ : ByteArray)).bind fun t213 => (if t213 = true then ((zak.f).bind fun t214 => ((zao.f k t214 (⟨#[65]⟩ : ByteArray) (⟨#[68]⟩ : ByteArray)).bind fun t217 => (some (!t217)))) else (none)))))) else (none))) = some r := by rw [if_pos rfl] at H; exact H
    clear H
    have H := H1
    clear H1
    replace H := Option.bind_eq_some_iff.mp H
    obtain ⟨t208, A70, H⟩ := H
    replace H : (if t208 = true then ((zac.f k (⟨#[105, 110, 116]⟩ : ByteArray) (⟨#[114, 101, 97, 108]⟩ : ByteArray)).bind fun t209 => (if t209 = true then (none) else ((zak.f).bind fun t210 => ((zao.f k t210 (⟨#[68]⟩ : ByteArray) (⟨#[65]⟩ : ByteArray)).bind fun t213 => (if t213 = true then ((zak.f).bind fun t214 => ((zao.f k t214 (⟨#[65]⟩ : ByteArray) (⟨#[68]⟩ : ByteArray)).bind fun t217 => (some (!t217)))) else (none)))))) else (none)) = some r := H
    have A7 := zaa.mk A70
    clear A70
    by_cases c8 : t208 = true
    ·
     subst c8
     have H1 : ((zac.f k (⟨#[105, 110, 116]⟩ : ByteArray) (⟨#[114, 101, 97, 108]⟩ : ByteArray)).bind fun t209 => (if t209 = true then (none) else ((zak.f).bind fun t210 => ((zao.f k t210 (⟨#[68]⟩ : ByteArray) (⟨#[65]⟩ : ByteArray)).bind fun t213 => (if t213 = true then ((zak.f).bind fun t214 => ((zao.f k t214 (⟨#[65]⟩ : ByteArray) (⟨#[68]⟩ : ByteArray)).bind fun t217 => (some (!t217)))) else (none)))))) = some r := by rw [if_pos rfl] at H; exact H
     clear H
     have H := H1
     clear H1
     replace H := Option.bind_eq_some_iff.mp H
     obtain ⟨t209, A90, H⟩ := H
     replace H : (if t209 = true then (none) else ((zak.f).bind fun t210 => ((zao.f k t210 (⟨#[68]⟩ : ByteArray) (⟨#[65]⟩ : ByteArray)).bind fun t213 => (if t213 = true then ((zak.f).bind fun t214 => ((zao.f k t214 (⟨#[65]⟩ : ByteArray) (⟨#[68]⟩ : ByteArray)).bind fun t217 => (some (!t217)))) else (none))))) = some r := H
     have A9 := zaa.mk A90
     clear A90
     by_cases c10 : t209 = true
     ·
      subst c10
      have H1 : (none) = some r := by rw [if_pos rfl] at H; exact H
      clear H
      have H := H1
      clear H1
      exact absurd H s9
     ·
      replace c10 := Bool.eq_false_iff.mpr c10
      subst c10
      have H1 : ((zak.f).bind fun t210 => ((zao.f k t210 (⟨#[68]⟩ : ByteArray) (⟨#[65]⟩ : ByteArray)).bind fun t213 => (if t213 = true then ((zak.f).bind fun t214 => ((zao.f k t214 (⟨#[65]⟩ : ByteArray) (⟨#[68]⟩ : ByteArray)).bind fun t217 => (some (!t217)))) else (none)))) = some r := by rw [if_neg (show ¬ (false = true) by decide)] at H; exact H
      clear H
      have H := H1
      clear H1
      replace H := Option.bind_eq_some_iff.mp H
      obtain ⟨t210, A110, H⟩ := H
      replace H : ((zao.f k t210 (⟨#[68]⟩ : ByteArray) (⟨#[65]⟩ : ByteArray)).bind fun t213 => (if t213 = true then ((zak.f).bind fun t214 => ((zao.f k t214 (⟨#[65]⟩ : ByteArray) (⟨#[68]⟩ : ByteArray)).bind fun t217 => (some (!t217)))) else (none))) = some r := H
      have A11 := zaa.mk A110
      clear A110
      replace H := Option.bind_eq_some_iff.mp H
      obtain ⟨t213, A120, H⟩ := H
      replace H : (if t213 = true then ((zak.f).bind fun t214 => ((zao.f k t214 (⟨#[65]⟩ : ByteArray) (⟨#[68]⟩ : ByteArray)).bind fun t217 => (some (!t217)))) else (none)) = some r := H
      have A12 := zaa.mk A120
      clear A120
      by_cases c13 : t213 = true
      ·
       subst c13
       have H1 : ((zak.f).bind fun t214 => ((zao.f k t214 (⟨#[65]⟩ : ByteArray) (⟨#[68]⟩ : ByteArray)).bind fun t217 => (some (!t217)))) = some r := by rw [if_pos rfl] at H; exact H
       clear H
       have H := H1
       clear H1
       replace H := Option.bind_eq_some_iff.mp H
       obtain ⟨t214, A140, H⟩ := H
       replace H : ((zao.f k t214 (⟨#[65]⟩ : ByteArray) (⟨#[68]⟩ : ByteArray)).bind fun t217 => (some (!t217))) = some r := H
       have A14 := zaa.mk A140
       clear A140
       replace H := Option.bind_eq_some_iff.mp H
       obtain ⟨t217, A150, H⟩ := H
       replace H : (some (!t217)) = some r := H
       have A15 := zaa.mk A150
       clear A150
       obtain rfl := Option.some.inj H
       go_enter Tryd.func8, Tryd.ntmps8
       have Tk1_ := zaa.mk True.intro
       have Tk2_ := zaa.mk True.intro
       have Tk3_ := zaa.mk True.intro
       have Tk4_ := zaa.mk True.intro
       have Tk5_ := zaa.mk True.intro
       have Tk6_ := zaa.mk True.intro
       have Tk7_ := zaa.mk True.intro
       have Tk8_ := zaa.mk True.intro
       go_wp2_with (first | ((with_reducible refine zaA (f := 7) rfl ?_); refine zbn (some 1) rfl rfl Tryd.func7 k9 rfl #[.string (⟨#[65]⟩ : ByteArray), .string (⟨#[66]⟩ : ByteArray)] rfl m9 ?_; (with_reducible refine (zac.calls k (⟨#[65]⟩ : ByteArray) (⟨#[66]⟩ : ByteArray) true _ A1.out).mono ?_); rintro e w16 ⟨rfl, hb⟩; refine ⟨_, rfl, ?_⟩; have n0_ := zaa.mk (zaj (by repeat (first | (with_reducible first | exact HB.out | apply zad | apply zab | apply zae) | exact HB.out)) hb); clear HB; have HB := n0_; clear n0_; (try clear hb); (try clear hb2); (try clear hk); (try clear hi)) | (clear Tk1_; go_at_call 7; (with_reducible refine (zac.calls k (⟨#[65]⟩ : ByteArray) (⟨#[67]⟩ : ByteArray) false _ A3.out).mono ?_); rintro e w17 ⟨rfl, hb⟩; have n0_ := zaa.mk (zaj (by repeat (first | (with_reducible first | exact HB.out | apply zad | apply zab | apply zae) | exact HB.out)) hb); clear HB; have HB := n0_; clear n0_; (try clear hb); (try clear hb2); (try clear hk); (try clear hi)) | (clear Tk2_; go_at_call 7; (with_reducible refine (zac.calls k (⟨#[69]⟩ : ByteArray) (⟨#[70]⟩ : ByteArray) true _ A5.out).mono ?_); rintro e w18 ⟨rfl, hb⟩; have n0_ := zaa.mk (zaj (by repeat (first | (with_reducible first | exact HB.out | apply zad | apply zab | apply zae) | exact HB.out)) hb); clear HB; have HB := n0_; clear n0_; (try clear hb); (try clear hb2); (try clear hk); (try clear hi)) | (clear Tk3_; go_at_call 7; (with_reducible refine (zac.calls k (⟨#[63]⟩ : ByteArray) (⟨#[65]⟩ : ByteArray) true _ A7.out).mono ?_); rintro e w19 ⟨rfl, hb⟩; have n0_ := zaa.mk (zaj (by repeat (first | (with_reducible first | exact HB.out | apply zad | apply zab | apply zae) | exact HB.out)) hb); clear HB; have HB := n0_; clear n0_; (try clear hb); (try clear hb2); (try clear hk); (try clear hi)) | (clear Tk4_; go_at_call 7; (with_reducible refine (zac.calls k (⟨#[105, 110, 116]⟩ : ByteArray) (⟨#[114, 101, 97, 108]⟩ : ByteArray) false _ A9.out).mono ?_); rintro e w20 ⟨rfl, hb⟩; have n0_ := zaa.mk (zaj (by repeat (first | (with_reducible first | exact HB.out | apply zad | apply zab | apply zae) | exact HB.out)) hb); clear HB; have HB := n0_; clear n0_; (try clear hb); (try clear hb2); (try clear hk); (try clear hi)) | (clear Tk5_; go_at_call 10; (with_reducible refine (zak.calls  t210 _ A11.out).mono ?_); rintro e w21 ⟨v211, rfl, ho0, hb⟩; have n0_ := zaa.mk (Kd.zch (Kd.zcb (ok' := fun k_ => True) ho0 (fun k_ hk_ => trivial)) (zaq (by repeat (first | (with_reducible first | exact HB.out | apply zad | apply zab | apply zae) | exact HB.out)))); have n1_ := zaa.mk (zaj (by repeat (first | (with_reducible first | exact HB.out | apply zad | apply zab | apply zae) | exact HB.out)) hb); clear HB; have HO212 := n0_; have HB := n1_; clear n0_ n1_; (try clear hb); (try clear hb2); (try clear hk); (try clear hi); (try clear ho0); obtain ⟨Ao22, co22, eo22⟩ := Kd.zcs HO212.out; subst eo22) | (clear Tk6_; go_at_call 9; (with_reducible refine (zao.calls k _ _ t210 (⟨#[68]⟩ : ByteArray) (⟨#[65]⟩ : ByteArray) true _ ?side1 ?side2 A12.out).mono ?_); (case side1 => repeat (first | exact (Kd.zbD HO212.out).2.2 | (with_reducible refine Kd.zbe ?_ _) | (with_reducible refine Kd.zbj ?_ _) | (with_reducible refine Kd.zbz ?_))); (case side2 => exact (Kd.zbD HO212.out).2.1); rintro e w23 ⟨rfl, hb⟩; have n0_ := zaa.mk (Kd.zb3 (by (with_reducible repeat (first | apply Kd.zaS | apply Kd.zaT | apply Kd.zbc)); exact HO212.out) hb); have n1_ := zaa.mk (zaj (by repeat (first | (with_reducible first | exact HB.out | apply zad | apply zab | apply zae) | exact HB.out)) hb); clear HO212; clear HB; have HO212 := n0_; have HB := n1_; clear n0_ n1_; (try clear hb); (try clear hb2); (try clear hk); (try clear hi)) | (clear Tk7_; go_at_call 10; (with_reducible refine (zak.calls  t214 _ A14.out).mono ?_); rintro e w24 ⟨v215, rfl, ho0, hb⟩; have n0_ := zaa.mk (Kd.zba (by (with_reducible repeat (first | apply Kd.zaS | apply Kd.zaT | apply Kd.zbc)); exact HO212.out) (Kd.zdm ho0) hb); have n1_ := zaa.mk (Kd.zch (Kd.zcb (ok' := fun k_ => some k_ ≠ (.slice Ao22 t210.length co22 : Value).ownBlock) ho0 (fun k_ hk_ => (Kd.fresh' (Kd.N_lt (by (with_reducible repeat (first | apply Kd.zaS | apply Kd.zaT | apply Kd.zbc)); exact HO212.out)) k_ hk_))) (zaq (by repeat (first | (with_reducible first | exact HB.out | apply zad | apply zab | apply zae) | exact HB.out)))); have n2_ := zaa.mk (zaj (by repeat (first | (with_reducible first | exact HB.out | apply zad | apply zab | apply zae) | exact HB.out)) hb); clear HO212; clear HB; have HO212 := n0_; have HO216 := n1_; have HB := n2_; clear n0_ n1_ n2_; (try clear hb); (try clear hb2); (try clear hk); (try clear hi); (try clear ho0); obtain ⟨Ao25, co25, eo25⟩ := Kd.zcs HO216.out; subst eo25) | (clear Tk8_; go_at_call 9; (with_reducible refine (zao.calls k _ _ t214 (⟨#[65]⟩ : ByteArray) (⟨#[68]⟩ : ByteArray) t217 _ ?side1 ?side2 A15.out).mono ?_); (case side1 => repeat (first | exact (Kd.zbD HO216.out).2.2 | (with_reducible refine Kd.zbe ?_ _) | (with_reducible refine Kd.zbj ?_ _) | (with_reducible refine Kd.zbz ?_))); (case side2 => exact (Kd.zbD HO216.out).2.1); rintro e w26 ⟨rfl, hb⟩; have n0_ := zaa.mk (Kd.zb3 (by (with_reducible repeat (first | apply Kd.zaS | apply Kd.zaT | apply Kd.zbc)); exact HO212.out) hb); have n1_ := zaa.mk (Kd.zb3 (by (with_reducible repeat (first | apply Kd.zaS | apply Kd.zaT | apply Kd.zbc)); exact HO216.out) hb); have n2_ := zaa.mk (zaj (by repeat (first | (with_reducible first | exact HB.out | apply zad | apply zab | apply zae) | exact HB.out)) hb); clear HO212; clear HO216; clear HB; have HO212 := n0_; have HO216 := n1_; have HB := n2_; clear n0_ n1_ n2_; (try clear hb); (try clear hb2); (try clear hk); (try clear hi)))
       go_ret
       exact ⟨by first | rfl | (simp [zaF, zaG] <;> rfl) | (simp [*, zaF, zaG] <;> rfl), by repeat (first | (with_reducible first | exact HB.out | apply zad | apply zab | apply zae) | exact HB.out)⟩
      ·
       replace c13 := Bool.eq_false_iff.mpr c13
       subst c13
       have H1 : (none) = some r := by rw [if_neg (show ¬ (false = true) by decide)] at H; exact H
       clear H
       have H := H1
       clear H1
       exact absurd H s9
    ·
     replace c8 := Bool.eq_false_iff.mpr c8
     subst c8
     have H1 : (none) = some r := by rw [if_neg (show ¬ (false = true) by decide)] at H; exact H
     clear H
     have H := H1
     clear H1
     exact absurd H s9
   ·
    replace c6 := Bool.eq_false_iff.mpr c6
    subst c6
    have H1 : (none) = some r := by rw [if_neg (show ¬ (false = true) by decide)] at H; exact H
    clear H
    have H := H1
    clear H1
    exact absurd H s9
 ·
  replace c2 := Bool.eq_false_iff.mpr c2
  subst c2
  have H1 : (none) = some r := by rw [if_neg (show ¬ (false = true) by decide)] at H; exact H
  clear H
  have H := H1
  clear H1
  exact absurd H s9
def chaperonlaw07_ConsistKnown.j0 : Nat → Bool → Option (Bool)
 | 0, _ => none
 | k + 1, x1 => (zaP.f k).bind fun t226 => (if t226 = true then (if x1 = true then ((zak.f).bind fun t227 => ((zao.f k t227 (⟨#[65]⟩ : ByteArray) (⟨#[63]⟩ : ByteArray)).bind fun t230 => (if t230 = true then (none) else ((zak.f).bind fun t231 => ((zao.f k t231 (⟨#[69]⟩ : ByteArray) (⟨#[70]⟩ : ByteArray)).bind fun t234 => (some t234)))))) else (none)) else (none))
def chaperonlaw07_ConsistKnown.f (k : Nat)  : Option (Bool) := (zac.f k (⟨#[66]⟩ : ByteArray) (⟨#[65]⟩ : ByteArray)).bind fun t218 => (if t218 = true then ((zac.f k (⟨#[66]⟩ : ByteArray) (⟨#[67]⟩ : ByteArray)).bind fun t219 => (if t219 = true then ((zac.f k (⟨#[68]⟩ : ByteArray) (⟨#[66]⟩ : ByteArray)).bind fun t220 => (if t220 = true then ((zac.f k (⟨#[66]⟩ : ByteArray) (⟨#[68]⟩ : ByteArray)).bind fun t221 => (if t221 = true then (chaperonlaw07_ConsistKnown.j0 k false) else ((zac.f k (⟨#[70]⟩ : ByteArray) (⟨#[69]⟩ : ByteArray)).bind fun t222 => (if t222 = true then ((zac.f k (⟨#[69]⟩ : ByteArray) (⟨#[65]⟩ : ByteArray)).bind fun t223 => (if t223 = true then (chaperonlaw07_ConsistKnown.j0 k false) else ((zac.f k (⟨#[105, 110, 116]⟩ : ByteArray) (⟨#[63]⟩ : ByteArray)).bind fun t224 => (if t224 = true then ((zac.f k (⟨#[90]⟩ : ByteArray) (⟨#[63]⟩ : ByteArray)).bind fun t225 => (chaperonlaw07_ConsistKnown.j0 k (!t225))) else (chaperonlaw07_ConsistKnown.j0 k false))))) else (chaperonlaw07_ConsistKnown.j0 k false))))) else (chaperonlaw07_ConsistKnown.j0 k false))) else (chaperonlaw07_ConsistKnown.j0 k false))) else (chaperonlaw07_ConsistKnown.j0 k false))
theorem chaperonlaw07_ConsistKnown.zcF : ∀ k, (∀ y0, LeO (chaperonlaw07_ConsistKnown.j0 k y0) (chaperonlaw07_ConsistKnown.j0 (k + 1) y0))
 | 0 => fun _ r h => by simp [chaperonlaw07_ConsistKnown.j0] at h
 | k + 1 => by
  have ih0 := chaperonlaw07_ConsistKnown.zcF k
  ·
   intro y0
   unfold chaperonlaw07_ConsistKnown.j0
   repeat' first
   | (with_reducible exact ih0 _)
   | (with_reducible exact zaP.mono _)
   | (with_reducible exact zac.mono _ _ _)
   | (with_reducible exact zao.mono _ _ _ _)
   | (with_reducible exact LeO.refl _)
   | (with_reducible exact LeO.none _)
   | (with_reducible refine LeO.ite ?_ ?_)
   | (with_reducible refine LeO.bind ?_ (fun _ => ?_))
   | exact ih0 _
   | exact zaP.mono _
   | exact zac.mono _ _ _
   | exact zao.mono _ _ _ _
   | exact LeO.none _
   | refine LeO.ite ?_ ?_
   | refine LeO.bind ?_ (fun _ => ?_)
theorem chaperonlaw07_ConsistKnown.mono : ∀ k, LeO (chaperonlaw07_ConsistKnown.f k ) (chaperonlaw07_ConsistKnown.f (k + 1) ) := by
 intro  k
 have ih0 := chaperonlaw07_ConsistKnown.zcF k
 unfold chaperonlaw07_ConsistKnown.f
 repeat' first
   | (with_reducible exact ih0 _)
   | (with_reducible exact zaP.mono _)
   | (with_reducible exact zac.mono _ _ _)
   | (with_reducible exact zao.mono _ _ _ _)
   | (with_reducible exact LeO.refl _)
   | (with_reducible exact LeO.none _)
   | (with_reducible refine LeO.ite ?_ ?_)
   | (with_reducible refine LeO.bind ?_ (fun _ => ?_))
   | exact ih0 _
   | exact zaP.mono _
   | exact zac.mono _ _ _
   | exact zao.mono _ _ _ _
   | exact LeO.none _
   | refine LeO.ite ?_ ?_
   | refine LeO.bind ?_ (fun _ => ?_)
theorem chaperonlaw07_ConsistKnown.calls (k : Nat)  (r : Bool) (w : World) (h : chaperonlaw07_ConsistKnown.f k  = some r) (hG : Go.Proofs.YtfhgmebhdchegaaDoorTab.GW w := by exact Go.Proofs.YtfhgmebhdchegaaDoorTab.GW.below hG (by repeat (first | (with_reducible first | exact HB.out | apply zad | apply zab | apply zae) | exact HB.out | refine zau ?_ (zaa.out (by assumption)) | exact Below.refl _ _))) :
  Calls Tryd.prog 3 #[] w fun e w' => e = .returned (.bool r) ∧ Below w.heap.size w w' := by
 have HB := zaa.mk (Below.refl w.heap.size w)
 have H : ((zac.f k (⟨#[66]⟩ : ByteArray) (⟨#[65]⟩ : ByteArray)).bind fun t218 => (if t218 = true then ((zac.f k (⟨#[66]⟩ : ByteArray) (⟨#[67]⟩ : ByteArray)).bind fun t219 => (if t219 = true then ((zac.f k (⟨#[68]⟩ : ByteArray) (⟨#[66]⟩ : ByteArray)).bind fun t220 => (if t220 = true then ((zac.f k (⟨#[66]⟩ : ByteArray) (⟨#[68]⟩ : ByteArray)).bind fun t221 => (if t221 = true then (chaperonlaw07_ConsistKnown.j0 k false) else ((zac.f k (⟨#[70]⟩ : ByteArray) (⟨#[69]⟩ : ByteArray)).bind fun t222 => (if t222 = true then ((zac.f k (⟨#[69]⟩ : ByteArray) (⟨#[65]⟩ : ByteArray)).bind fun t223 => (if t223 = true then (chaperonlaw07_ConsistKnown.j0 k false) else ((zac.f k (⟨#[105, 110, 116]⟩ : ByteArray) (⟨#[63]⟩ : ByteArray)).bind fun t224 => (if t224 = true then ((zac.f k (⟨#[90]⟩ : ByteArray) (⟨#[63]⟩ : ByteArray)).bind fun t225 => (chaperonlaw07_ConsistKnown.j0 k (!t225))) else (chaperonlaw07_ConsistKnown.j0 k false))))) else (chaperonlaw07_ConsistKnown.j0 k false))))) else (chaperonlaw07_ConsistKnown.j0 k false))) else (chaperonlaw07_ConsistKnown.j0 k false))) else (chaperonlaw07_ConsistKnown.j0 k false))) = some r := h
 clear h
 have HC1 := zaa.mk H
 clear H
 go_enter Tryd.func3, Tryd.ntmps3
 go_upto_region 1 with (fail)
 go_cut [1] (fun v1 wc => ∃ (kq : Nat) (x1_0 : Bool), v1 = .bool x1_0 ∧ zaa (chaperonlaw07_ConsistKnown.j0 kq x1_0 = some r) ∧ zaa (kq ≤ k) ∧ zaa (Below w.heap.size w wc))
 case first =>
  have H := HC1.out
  clear HC1
  replace H := Option.bind_eq_some_iff.mp H
  obtain ⟨t218, A20, H⟩ := H
  replace H : (if t218 = true then ((zac.f k (⟨#[66]⟩ : ByteArray) (⟨#[67]⟩ : ByteArray)).bind fun t219 => (if t219 = true then ((zac.f k (⟨#[68]⟩ : ByteArray) (⟨#[66]⟩ : ByteArray)).bind fun t220 => (if t220 = true then ((zac.f k (⟨#[66]⟩ : ByteArray) (⟨#[68]⟩ : ByteArray)).bind fun t221 => (if t221 = true then (chaperonlaw07_ConsistKnown.j0 k false) else ((zac.f k (⟨#[70]⟩ : ByteArray) (⟨#[69]⟩ : ByteArray)).bind fun t222 => (if t222 = true then ((zac.f k (⟨#[69]⟩ : ByteArray) (⟨#[65]⟩ : ByteArray)).bind fun t223 => (if t223 = true then (chaperonlaw07_ConsistKnown.j0 k false) else ((zac.f k (⟨#[105, 110, 116]⟩ : ByteArray) (⟨#[63]⟩ : ByteArray)).bind fun t224 => (if t224 = true then ((zac.f k (⟨#[90]⟩ : ByteArray) (⟨#[63]⟩ : ByteArray)).bind fun t225 => (chaperonlaw07_ConsistKnown.j0 k (!t225))) else (chaperonlaw07_ConsistKnown.j0 k false))))) else (chaperonlaw07_ConsistKnown.j0 k false))))) else (chaperonlaw07_ConsistKnown.j0 k false))) else (chaperonlaw07_ConsistKnown.j0 k false))) else (chaperonlaw07_ConsistKnown.j0 k false)) = some r := H
  have A2 := zaa.mk A20
  clear A20
  by_cases c3 : t218 = true
  ·
   subst c3
   have H1 : ((zac.f k (⟨#[66]⟩ : ByteArray) (⟨#[67]⟩ : ByteArray)).bind fun t219 => (if t219 = true then ((zac.f k (⟨#[68]⟩ : ByteArray) (⟨#[66]⟩ : ByteArray)).bind fun t220 => (if t220 = true then ((zac.f k (⟨#[66]⟩ : ByteArray) (⟨#[68]⟩ : ByteArray)).bind fun t221 => (if t221 = true then (chaperonlaw07_ConsistKnown.j0 k false) else ((zac.f k (⟨#[70]⟩ : ByteArray) (⟨#[69]⟩ : ByteArray)).bind fun t222 => (if t222 = true then ((zac.f k (⟨#[69]⟩ : ByteArray) (⟨#[65]⟩ : ByteArray)).bind fun t223 => (if t223 = true then (chaperonlaw07_ConsistKnown.j0 k false) else ((zac.f k (⟨#[105, 110, 116]⟩ : ByteArray) (⟨#[63]⟩ : ByteArray)).bind fun t224 => (if t224 = true then ((zac.f k (⟨#[90]⟩ : ByteArray) (⟨#[63]⟩ : ByteArray)).bind fun t225 => (chaperonlaw07_ConsistKnown.j0 k (!t225))) else (chaperonlaw07_ConsistKnown.j0 k false))))) else (chaperonlaw07_ConsistKnown.j0 k false))))) else (chaperonlaw07_ConsistKnown.j0 k false))) else (chaperonlaw07_ConsistKnown.j0 k false))) = some r := by rw [if_pos rfl] at H; exact H
   clear H
   have H := H1
   clear H1
   replace H := Option.bind_eq_some_iff.mp H
   obtain ⟨t219, A40, H⟩ := H
   replace H : (if t219 = true then ((zac.f k (⟨#[68]⟩ : ByteArray) (⟨#[66]⟩ : ByteArray)).bind fun t220 => (if t220 = true then ((zac.f k (⟨#[66]⟩ : ByteArray) (⟨#[68]⟩ : ByteArray)).bind fun t221 => (if t221 = true then (chaperonlaw07_ConsistKnown.j0 k false) else ((zac.f k (⟨#[70]⟩ : ByteArray) (⟨#[69]⟩ : ByteArray)).bind fun t222 => (if t222 = true then ((zac.f k (⟨#[69]⟩ : ByteArray) (⟨#[65]⟩ : ByteArray)).bind fun t223 => (if t223 = true then (chaperonlaw07_ConsistKnown.j0 k false) else ((zac.f k (⟨#[105, 110, 116]⟩ : ByteArray) (⟨#[63]⟩ : ByteArray)).bind fun t224 => (if t224 = true then ((zac.f k (⟨#[90]⟩ : ByteArray) (⟨#[63]⟩ : ByteArray)).bind fun t225 => (chaperonlaw07_ConsistKnown.j0 k (!t225))) else (chaperonlaw07_ConsistKnown.j0 k false))))) else (chaperonlaw07_ConsistKnown.j0 k false))))) else (chaperonlaw07_ConsistKnown.j0 k false))) else (chaperonlaw07_ConsistKnown.j0 k false)) = some r := H
   have A4 := zaa.mk A40
   clear A40
   by_cases c5 : t219 = true
   ·
    subst c5
    have H1 : ((zac.f k (⟨#[68]⟩ : ByteArray) (⟨#[66]⟩ : ByteArray)).bind fun t220 => (if t220 = true then ((zac.f k (⟨#[66]⟩ : ByteArray) (⟨#[68]⟩ : ByteArray)).bind fun t221 => (if t221 = true then (chaperonlaw07_ConsistKnown.j0 k false) else ((zac.f k (⟨#[70]⟩ : ByteArray) (⟨#[69]⟩ : ByteArray)).bind fun t222 => (if t222 = true then ((zac.f k (⟨#[69]⟩ : ByteArray) (⟨#[65]⟩ : ByteArray)).bind fun t223 => (if t223 = true then (chaperonlaw07_ConsistKnown.j0 k false) else ((zac.f k (⟨#[105, 110, 116]⟩ : ByteArray) (⟨#[63]⟩ : ByteArray)).bind fun t224 => (if t224 = true then ((zac.f k (⟨#[90]⟩ : ByteArray) (⟨#[63]⟩ : ByteArray)).bind fun t225 => (chaperonlaw07_ConsistKnown.j0 k (!t225))) else (chaperonlaw07_ConsistKnown.j0 k false))))) else (chaperonlaw07_ConsistKnown.j0 k false))))) else (chaperonlaw07_ConsistKnown.j0 k false))) = some r := by rw [if_pos rfl] at H; exact H
    clear H
    have H := H1
    clear H1
    replace H := Option.bind_eq_some_iff.mp H
    obtain ⟨t220, A60, H⟩ := H
    replace H : (if t220 = true then ((zac.f k (⟨#[66]⟩ : ByteArray) (⟨#[68]⟩ : ByteArray)).bind fun t221 => (if t221 = true then (chaperonlaw07_ConsistKnown.j0 k false) else ((zac.f k (⟨#[70]⟩ : ByteArray) (⟨#[69]⟩ : ByteArray)).bind fun t222 => (if t222 = true then ((zac.f k (⟨#[69]⟩ : ByteArray) (⟨#[65]⟩ : ByteArray)).bind fun t223 => (if t223 = true then (chaperonlaw07_ConsistKnown.j0 k false) else ((zac.f k (⟨#[105, 110, 116]⟩ : ByteArray) (⟨#[63]⟩ : ByteArray)).bind fun t224 => (if t224 = true then ((zac.f k (⟨#[90]⟩ : ByteArray) (⟨#[63]⟩ : ByteArray)).bind fun t225 => (chaperonlaw07_ConsistKnown.j0 k (!t225))) else (chaperonlaw07_ConsistKnown.j0 k false))))) else (chaperonlaw07_ConsistKnown.j0 k false))))) else (chaperonlaw07_ConsistKnown.j0 k false)) = some r := H
    have A6 := zaa.mk A60
    clear A60
    by_cases c7 : t220 = true
    ·
     subst c7
     have H1 : ((zac.f k (⟨#[66]⟩ : ByteArray) (⟨#[68]⟩ : ByteArray)).bind fun t221 => (if t221 = true then (chaperonlaw07_ConsistKnown.j0 k false) else ((zac.f k (⟨#[70]⟩ : ByteArray) (⟨#[69]⟩ : ByteArray)).bind fun t222 => (if t222 = true then ((zac.f k (⟨#[69]⟩ : ByteArray) (⟨#[65]⟩ : ByteArray)).bind fun t223 => (if t223 = true then (chaperonlaw07_ConsistKnown.j0 k false) else ((zac.f k (⟨#[105, 110, 116]⟩ : ByteArray) (⟨#[63]⟩ : ByteArray)).bind fun t224 => (if t224 = true then ((zac.f k (⟨#[90]⟩ : ByteArray) (⟨#[63]⟩ : ByteArray)).bind fun t225 => (chaperonlaw07_ConsistKnown.j0 k (!t225))) else (chaperonlaw07_ConsistKnown.j0 k false))))) else (chaperonlaw07_ConsistKnown.j0 k false))))) = some r := by rw [if_pos rfl] at H; exact H
     clear H
     have H := H1
     clear H1
     replace H := Option.bind_eq_some_iff.mp H
     obtain ⟨t221, A80, H⟩ := H
     replace H : (if t221 = true then (chaperonlaw07_ConsistKnown.j0 k false) else ((zac.f k (⟨#[70]⟩ : ByteArray) (⟨#[69]⟩ : ByteArray)).bind fun t222 => (if t222 = true then ((zac.f k (⟨#[69]⟩ : ByteArray) (⟨#[65]⟩ : ByteArray)).bind fun t223 => (if t223 = true then (chaperonlaw07_ConsistKnown.j0 k false) else ((zac.f k (⟨#[105, 110, 116]⟩ : ByteArray) (⟨#[63]⟩ : ByteArray)).bind fun t224 => (if t224 = true then ((zac.f k (⟨#[90]⟩ : ByteArray) (⟨#[63]⟩ : ByteArray)).bind fun t225 => (chaperonlaw07_ConsistKnown.j0 k (!t225))) else (chaperonlaw07_ConsistKnown.j0 k false))))) else (chaperonlaw07_ConsistKnown.j0 k false)))) = some r := H
     have A8 := zaa.mk A80
     clear A80
     by_cases c9 : t221 = true
     ·
      subst c9
      have H1 : (chaperonlaw07_ConsistKnown.j0 k false) = some r := by rw [if_pos rfl] at H; exact H
      clear H
      have H := H1
      clear H1
      have H' := zaa.mk H
      clear H
      have Tk1_ := zaa.mk True.intro
      have Tk2_ := zaa.mk True.intro
      have Tk3_ := zaa.mk True.intro
      go_wp2_with (first | ((with_reducible refine zaA (f := 7) rfl ?_); refine zbn (some 2) rfl rfl Tryd.func7 k9 rfl #[.string (⟨#[66]⟩ : ByteArray), .string (⟨#[65]⟩ : ByteArray)] rfl m9 ?_; (with_reducible refine (zac.calls k (⟨#[66]⟩ : ByteArray) (⟨#[65]⟩ : ByteArray) true _ A2.out).mono ?_); rintro e w10 ⟨rfl, hb⟩; refine ⟨_, rfl, ?_⟩; have n0_ := zaa.mk (zaj (by repeat (first | (with_reducible first | exact HB.out | apply zad | apply zab | apply zae) | exact HB.out)) hb); clear HB; have HB := n0_; clear n0_; (try clear hb); (try clear hb2); (try clear hk); (try clear hi)) | (clear Tk1_; go_at_call 7; (with_reducible refine (zac.calls k (⟨#[66]⟩ : ByteArray) (⟨#[67]⟩ : ByteArray) true _ A4.out).mono ?_); rintro e w11 ⟨rfl, hb⟩; have n0_ := zaa.mk (zaj (by repeat (first | (with_reducible first | exact HB.out | apply zad | apply zab | apply zae) | exact HB.out)) hb); clear HB; have HB := n0_; clear n0_; (try clear hb); (try clear hb2); (try clear hk); (try clear hi)) | (clear Tk2_; go_at_call 7; (with_reducible refine (zac.calls k (⟨#[68]⟩ : ByteArray) (⟨#[66]⟩ : ByteArray) true _ A6.out).mono ?_); rintro e w12 ⟨rfl, hb⟩; have n0_ := zaa.mk (zaj (by repeat (first | (with_reducible first | exact HB.out | apply zad | apply zab | apply zae) | exact HB.out)) hb); clear HB; have HB := n0_; clear n0_; (try clear hb); (try clear hb2); (try clear hk); (try clear hi)) | (clear Tk3_; go_at_call 7; (with_reducible refine (zac.calls k (⟨#[66]⟩ : ByteArray) (⟨#[68]⟩ : ByteArray) true _ A8.out).mono ?_); rintro e w13 ⟨rfl, hb⟩; have n0_ := zaa.mk (zaj (by repeat (first | (with_reducible first | exact HB.out | apply zad | apply zab | apply zae) | exact HB.out)) hb); clear HB; have HB := n0_; clear n0_; (try clear hb); (try clear hb2); (try clear hk); (try clear hi)))
      go_meet
      case rel => exact ⟨_, (false), (by first | rfl | (simp; done) | (simp [*]; done)), H', ⟨by first | omega | exact Nat.le_refl _⟩, ⟨by repeat (first | (with_reducible first | exact HB.out | apply zad | apply zab | apply zae) | exact HB.out)⟩⟩
     ·
      replace c9 := Bool.eq_false_iff.mpr c9
      subst c9
      have H1 : ((zac.f k (⟨#[70]⟩ : ByteArray) (⟨#[69]⟩ : ByteArray)).bind fun t222 => (if t222 = true then ((zac.f k (⟨#[69]⟩ : ByteArray) (⟨#[65]⟩ : ByteArray)).bind fun t223 => (if t223 = true then (chaperonlaw07_ConsistKnown.j0 k false) else ((zac.f k (⟨#[105, 110, 116]⟩ : ByteArray) (⟨#[63]⟩ : ByteArray)).bind fun t224 => (if t224 = true then ((zac.f k (⟨#[90]⟩ : ByteArray) (⟨#[63]⟩ : ByteArray)).bind fun t225 => (chaperonlaw07_ConsistKnown.j0 k (!t225))) else (chaperonlaw07_ConsistKnown.j0 k false))))) else (chaperonlaw07_ConsistKnown.j0 k false))) = some r := by rw [if_neg (show ¬ (false = true) by decide)] at H; exact H
      clear H
      have H := H1
      clear H1
      replace H := Option.bind_eq_some_iff.mp H
      obtain ⟨t222, A140, H⟩ := H
      replace H : (if t222 = true then ((zac.f k (⟨#[69]⟩ : ByteArray) (⟨#[65]⟩ : ByteArray)).bind fun t223 => (if t223 = true then (chaperonlaw07_ConsistKnown.j0 k false) else ((zac.f k (⟨#[105, 110, 116]⟩ : ByteArray) (⟨#[63]⟩ : ByteArray)).bind fun t224 => (if t224 = true then ((zac.f k (⟨#[90]⟩ : ByteArray) (⟨#[63]⟩ : ByteArray)).bind fun t225 => (chaperonlaw07_ConsistKnown.j0 k (!t225))) else (chaperonlaw07_ConsistKnown.j0 k false))))) else (chaperonlaw07_ConsistKnown.j0 k false)) = some r := H
      have A14 := zaa.mk A140
      clear A140
      by_cases c15 : t222 = true
      ·
       subst c15
       have H1 : ((zac.f k (⟨#[69]⟩ : ByteArray) (⟨#[65]⟩ : ByteArray)).bind fun t223 => (if t223 = true then (chaperonlaw07_ConsistKnown.j0 k false) else ((zac.f k (⟨#[105, 110, 116]⟩ : ByteArray) (⟨#[63]⟩ : ByteArray)).bind fun t224 => (if t224 = true then ((zac.f k (⟨#[90]⟩ : ByteArray) (⟨#[63]⟩ : ByteArray)).bind fun t225 => (chaperonlaw07_ConsistKnown.j0 k (!t225))) else (chaperonlaw07_ConsistKnown.j0 k false))))) = some r := by rw [if_pos rfl] at H; exact H
       clear H
       have H := H1
       clear H1
       replace H := Option.bind_eq_some_iff.mp H
       obtain ⟨t223, A160, H⟩ := H
       replace H : (if t223 = true then (chaperonlaw07_ConsistKnown.j0 k false) else ((zac.f k (⟨#[105, 110, 116]⟩ : ByteArray) (⟨#[63]⟩ : ByteArray)).bind fun t224 => (if t224 = true then ((zac.f k (⟨#[90]⟩ : ByteArray) (⟨#[63]⟩ : ByteArray)).bind fun t225 => (chaperonlaw07_ConsistKnown.j0 k (!t225))) else (chaperonlaw07_ConsistKnown.j0 k false)))) = some r := H
       have A16 := zaa.mk A160
       clear A160
       by_cases c17 : t223 = true
       ·
        subst c17
        have H1 : (chaperonlaw07_ConsistKnown.j0 k false) = some r := by rw [if_pos rfl] at H; exact H
        clear H
        have H := H1
        clear H1
        have H' := zaa.mk H
        clear H
        have Tk1_ := zaa.mk True.intro
        have Tk2_ := zaa.mk True.intro
        have Tk3_ := zaa.mk True.intro
        have Tk4_ := zaa.mk True.intro
        have Tk5_ := zaa.mk True.intro
        go_wp2_with (first | ((with_reducible refine zaA (f := 7) rfl ?_); refine zbn (some 2) rfl rfl Tryd.func7 k9 rfl #[.string (⟨#[66]⟩ : ByteArray), .string (⟨#[65]⟩ : ByteArray)] rfl m9 ?_; (with_reducible refine (zac.calls k (⟨#[66]⟩ : ByteArray) (⟨#[65]⟩ : ByteArray) true _ A2.out).mono ?_); rintro e w18 ⟨rfl, hb⟩; refine ⟨_, rfl, ?_⟩; have n0_ := zaa.mk (zaj (by repeat (first | (with_reducible first | exact HB.out | apply zad | apply zab | apply zae) | exact HB.out)) hb); clear HB; have HB := n0_; clear n0_; (try clear hb); (try clear hb2); (try clear hk); (try clear hi)) | (clear Tk1_; go_at_call 7; (with_reducible refine (zac.calls k (⟨#[66]⟩ : ByteArray) (⟨#[67]⟩ : ByteArray) true _ A4.out).mono ?_); rintro e w19 ⟨rfl, hb⟩; have n0_ := zaa.mk (zaj (by repeat (first | (with_reducible first | exact HB.out | apply zad | apply zab | apply zae) | exact HB.out)) hb); clear HB; have HB := n0_; clear n0_; (try clear hb); (try clear hb2); (try clear hk); (try clear hi)) | (clear Tk2_; go_at_call 7; (with_reducible refine (zac.calls k (⟨#[68]⟩ : ByteArray) (⟨#[66]⟩ : ByteArray) true _ A6.out).mono ?_); rintro e w20 ⟨rfl, hb⟩; have n0_ := zaa.mk (zaj (by repeat (first | (with_reducible first | exact HB.out | apply zad | apply zab | apply zae) | exact HB.out)) hb); clear HB; have HB := n0_; clear n0_; (try clear hb); (try clear hb2); (try clear hk); (try clear hi)) | (clear Tk3_; go_at_call 7; (with_reducible refine (zac.calls k (⟨#[66]⟩ : ByteArray) (⟨#[68]⟩ : ByteArray) false _ A8.out).mono ?_); rintro e w21 ⟨rfl, hb⟩; have n0_ := zaa.mk (zaj (by repeat (first | (with_reducible first | exact HB.out | apply zad | apply zab | apply zae) | exact HB.out)) hb); clear HB; have HB := n0_; clear n0_; (try clear hb); (try clear hb2); (try clear hk); (try clear hi)) | (clear Tk4_; go_at_call 7; (with_reducible refine (zac.calls k (⟨#[70]⟩ : ByteArray) (⟨#[69]⟩ : ByteArray) true _ A14.out).mono ?_); rintro e w22 ⟨rfl, hb⟩; have n0_ := zaa.mk (zaj (by repeat (first | (with_reducible first | exact HB.out | apply zad | apply zab | apply zae) | exact HB.out)) hb); clear HB; have HB := n0_; clear n0_; (try clear hb); (try clear hb2); (try clear hk); (try clear hi)) | (clear Tk5_; go_at_call 7; (with_reducible refine (zac.calls k (⟨#[69]⟩ : ByteArray) (⟨#[65]⟩ : ByteArray) true _ A16.out).mono ?_); rintro e w23 ⟨rfl, hb⟩; have n0_ := zaa.mk (zaj (by repeat (first | (with_reducible first | exact HB.out | apply zad | apply zab | apply zae) | exact HB.out)) hb); clear HB; have HB := n0_; clear n0_; (try clear hb); (try clear hb2); (try clear hk); (try clear hi)))
        go_meet
        case rel => exact ⟨_, (false), (by first | rfl | (simp; done) | (simp [*]; done)), H', ⟨by first | omega | exact Nat.le_refl _⟩, ⟨by repeat (first | (with_reducible first | exact HB.out | apply zad | apply zab | apply zae) | exact HB.out)⟩⟩
       ·
        replace c17 := Bool.eq_false_iff.mpr c17
        subst c17
        have H1 : ((zac.f k (⟨#[105, 110, 116]⟩ : ByteArray) (⟨#[63]⟩ : ByteArray)).bind fun t224 => (if t224 = true then ((zac.f k (⟨#[90]⟩ : ByteArray) (⟨#[63]⟩ : ByteArray)).bind fun t225 => (chaperonlaw07_ConsistKnown.j0 k (!t225))) else (chaperonlaw07_ConsistKnown.j0 k false))) = some r := by rw [if_neg (show ¬ (false = true) by decide)] at H; exact H
        clear H
        have H := H1
        clear H1
        replace H := Option.bind_eq_some_iff.mp H
        obtain ⟨t224, A240, H⟩ := H
        replace H : (if t224 = true then ((zac.f k (⟨#[90]⟩ : ByteArray) (⟨#[63]⟩ : ByteArray)).bind fun t225 => (chaperonlaw07_ConsistKnown.j0 k (!t225))) else (chaperonlaw07_ConsistKnown.j0 k false)) = some r := H
        have A24 := zaa.mk A240
        clear A240
        by_cases c25 : t224 = true
        ·
         subst c25
         have H1 : ((zac.f k (⟨#[90]⟩ : ByteArray) (⟨#[63]⟩ : ByteArray)).bind fun t225 => (chaperonlaw07_ConsistKnown.j0 k (!t225))) = some r := by rw [if_pos rfl] at H; exact H
         clear H
         have H := H1
         clear H1
         replace H := Option.bind_eq_some_iff.mp H
         obtain ⟨t225, A260, H⟩ := H
         replace H : (chaperonlaw07_ConsistKnown.j0 k (!t225)) = some r := H
         have A26 := zaa.mk A260
         clear A260
         have H' := zaa.mk H
         clear H
         have Tk1_ := zaa.mk True.intro
         have Tk2_ := zaa.mk True.intro
         have Tk3_ := zaa.mk True.intro
         have Tk4_ := zaa.mk True.intro
         have Tk5_ := zaa.mk True.intro
         have Tk6_ := zaa.mk True.intro
         have Tk7_ := zaa.mk True.intro
         go_wp2_with (first | ((with_reducible refine zaA (f := 7) rfl ?_); refine zbn (some 2) rfl rfl Tryd.func7 k9 rfl #[.string (⟨#[66]⟩ : ByteArray), .string (⟨#[65]⟩ : ByteArray)] rfl m9 ?_; (with_reducible refine (zac.calls k (⟨#[66]⟩ : ByteArray) (⟨#[65]⟩ : ByteArray) true _ A2.out).mono ?_); rintro e w27 ⟨rfl, hb⟩; refine ⟨_, rfl, ?_⟩; have n0_ := zaa.mk (zaj (by repeat (first | (with_reducible first | exact HB.out | apply zad | apply zab | apply zae) | exact HB.out)) hb); clear HB; have HB := n0_; clear n0_; (try clear hb); (try clear hb2); (try clear hk); (try clear hi)) | (clear Tk1_; go_at_call 7; (with_reducible refine (zac.calls k (⟨#[66]⟩ : ByteArray) (⟨#[67]⟩ : ByteArray) true _ A4.out).mono ?_); rintro e w28 ⟨rfl, hb⟩; have n0_ := zaa.mk (zaj (by repeat (first | (with_reducible first | exact HB.out | apply zad | apply zab | apply zae) | exact HB.out)) hb); clear HB; have HB := n0_; clear n0_; (try clear hb); (try clear hb2); (try clear hk); (try clear hi)) | (clear Tk2_; go_at_call 7; (with_reducible refine (zac.calls k (⟨#[68]⟩ : ByteArray) (⟨#[66]⟩ : ByteArray) true _ A6.out).mono ?_); rintro e w29 ⟨rfl, hb⟩; have n0_ := zaa.mk (zaj (by repeat (first | (with_reducible first | exact HB.out | apply zad | apply zab | apply zae) | exact HB.out)) hb); clear HB; have HB := n0_; clear n0_; (try clear hb); (try clear hb2); (try clear hk); (try clear hi)) | (clear Tk3_; go_at_call 7; (with_reducible refine (zac.calls k (⟨#[66]⟩ : ByteArray) (⟨#[68]⟩ : ByteArray) false _ A8.out).mono ?_); rintro e w30 ⟨rfl, hb⟩; have n0_ := zaa.mk (zaj (by repeat (first | (with_reducible first | exact HB.out | apply zad | apply zab | apply zae) | exact HB.out)) hb); clear HB; have HB := n0_; clear n0_; (try clear hb); (try clear hb2); (try clear hk); (try clear hi)) | (clear Tk4_; go_at_call 7; (with_reducible refine (zac.calls k (⟨#[70]⟩ : ByteArray) (⟨#[69]⟩ : ByteArray) true _ A14.out).mono ?_); rintro e w31 ⟨rfl, hb⟩; have n0_ := zaa.mk (zaj (by repeat (first | (with_reducible first | exact HB.out | apply zad | apply zab | apply zae) | exact HB.out)) hb); clear HB; have HB := n0_; clear n0_; (try clear hb); (try clear hb2); (try clear hk); (try clear hi)) | (clear Tk5_; go_at_call 7; (with_reducible refine (zac.calls k (⟨#[69]⟩ : ByteArray) (⟨#[65]⟩ : ByteArray) false _ A16.out).mono ?_); rintro e w32 ⟨rfl, hb⟩; have n0_ := zaa.mk (zaj (by repeat (first | (with_reducible first | exact HB.out | apply zad | apply zab | apply zae) | exact HB.out)) hb); clear HB; have HB := n0_; clear n0_; (try clear hb); (try clear hb2); (try clear hk); (try clear hi)) | (clear Tk6_; go_at_call 7; (with_reducible refine (zac.calls k (⟨#[105, 110, 116]⟩ : ByteArray) (⟨#[63]⟩ : ByteArray) true _ A24.out).mono ?_); rintro e w33 ⟨rfl, hb⟩; have n0_ := zaa.mk (zaj (by repeat (first | (with_reducible first | exact HB.out | apply zad | apply zab | apply zae) | exact HB.out)) hb); clear HB; have HB := n0_; clear n0_; (try clear hb); (try clear hb2); (try clear hk); (try clear hi)) | (clear Tk7_; go_at_call 7; (with_reducible refine (zac.calls k (⟨#[90]⟩ : ByteArray) (⟨#[63]⟩ : ByteArray) t225 _ A26.out).mono ?_); rintro e w34 ⟨rfl, hb⟩; have n0_ := zaa.mk (zaj (by repeat (first | (with_reducible first | exact HB.out | apply zad | apply zab | apply zae) | exact HB.out)) hb); clear HB; have HB := n0_; clear n0_; (try clear hb); (try clear hb2); (try clear hk); (try clear hi)))
         go_meet
         case rel => exact ⟨_, (!t225), (by first | rfl | (simp; done) | (simp [*]; done)), H', ⟨by first | omega | exact Nat.le_refl _⟩, ⟨by repeat (first | (with_reducible first | exact HB.out | apply zad | apply zab | apply zae) | exact HB.out)⟩⟩
        ·
         replace c25 := Bool.eq_false_iff.mpr c25
         subst c25
         have H1 : (chaperonlaw07_ConsistKnown.j0 k false) = some r := by rw [if_neg (show ¬ (false = true) by decide)] at H; exact H
         clear H
         have H := H1
         clear H1
         have H' := zaa.mk H
         clear H
         have Tk1_ := zaa.mk True.intro
         have Tk2_ := zaa.mk True.intro
         have Tk3_ := zaa.mk True.intro
         have Tk4_ := zaa.mk True.intro
         have Tk5_ := zaa.mk True.intro
         have Tk6_ := zaa.mk True.intro
         go_wp2_with (first | ((with_reducible refine zaA (f := 7) rfl ?_); refine zbn (some 2) rfl rfl Tryd.func7 k9 rfl #[.string (⟨#[66]⟩ : ByteArray), .string (⟨#[65]⟩ : ByteArray)] rfl m9 ?_; (with_reducible refine (zac.calls k (⟨#[66]⟩ : ByteArray) (⟨#[65]⟩ : ByteArray) true _ A2.out).mono ?_); rintro e w35 ⟨rfl, hb⟩; refine ⟨_, rfl, ?_⟩; have n0_ := zaa.mk (zaj (by repeat (first | (with_reducible first | exact HB.out | apply zad | apply zab | apply zae) | exact HB.out)) hb); clear HB; have HB := n0_; clear n0_; (try clear hb); (try clear hb2); (try clear hk); (try clear hi)) | (clear Tk1_; go_at_call 7; (with_reducible refine (zac.calls k (⟨#[66]⟩ : ByteArray) (⟨#[67]⟩ : ByteArray) true _ A4.out).mono ?_); rintro e w36 ⟨rfl, hb⟩; have n0_ := zaa.mk (zaj (by repeat (first | (with_reducible first | exact HB.out | apply zad | apply zab | apply zae) | exact HB.out)) hb); clear HB; have HB := n0_; clear n0_; (try clear hb); (try clear hb2); (try clear hk); (try clear hi)) | (clear Tk2_; go_at_call 7; (with_reducible refine (zac.calls k (⟨#[68]⟩ : ByteArray) (⟨#[66]⟩ : ByteArray) true _ A6.out).mono ?_); rintro e w37 ⟨rfl, hb⟩; have n0_ := zaa.mk (zaj (by repeat (first | (with_reducible first | exact HB.out | apply zad | apply zab | apply zae) | exact HB.out)) hb); clear HB; have HB := n0_; clear n0_; (try clear hb); (try clear hb2); (try clear hk); (try clear hi)) | (clear Tk3_; go_at_call 7; (with_reducible refine (zac.calls k (⟨#[66]⟩ : ByteArray) (⟨#[68]⟩ : ByteArray) false _ A8.out).mono ?_); rintro e w38 ⟨rfl, hb⟩; have n0_ := zaa.mk (zaj (by repeat (first | (with_reducible first | exact HB.out | apply zad | apply zab | apply zae) | exact HB.out)) hb); clear HB; have HB := n0_; clear n0_; (try clear hb); (try clear hb2); (try clear hk); (try clear hi)) | (clear Tk4_; go_at_call 7; (with_reducible refine (zac.calls k (⟨#[70]⟩ : ByteArray) (⟨#[69]⟩ : ByteArray) true _ A14.out).mono ?_); rintro e w39 ⟨rfl, hb⟩; have n0_ := zaa.mk (zaj (by repeat (first | (with_reducible first | exact HB.out | apply zad | apply zab | apply zae) | exact HB.out)) hb); clear HB; have HB := n0_; clear n0_; (try clear hb); (try clear hb2); (try clear hk); (try clear hi)) | (clear Tk5_; go_at_call 7; (with_reducible refine (zac.calls k (⟨#[69]⟩ : ByteArray) (⟨#[65]⟩ : ByteArray) false _ A16.out).mono ?_); rintro e w40 ⟨rfl, hb⟩; have n0_ := zaa.mk (zaj (by repeat (first | (with_reducible first | exact HB.out | apply zad | apply zab | apply zae) | exact HB.out)) hb); clear HB; have HB := n0_; clear n0_; (try clear hb); (try clear hb2); (try clear hk); (try clear hi)) | (clear Tk6_; go_at_call 7; (with_reducible refine (zac.calls k (⟨#[105, 110, 116]⟩ : ByteArray) (⟨#[63]⟩ : ByteArray) false _ A24.out).mono ?_); rintro e w41 ⟨rfl, hb⟩; have n0_ := zaa.mk (zaj (by repeat (first | (with_reducible first | exact HB.out | apply zad | apply zab | apply zae) | exact HB.out)) hb); clear HB; have HB := n0_; clear n0_; (try clear hb); (try clear hb2); (try clear hk); (try clear hi)))
         go_meet
         case rel => exact ⟨_, (false), (by first | rfl | (simp; done) | (simp [*]; done)), H', ⟨by first | omega | exact Nat.le_refl _⟩, ⟨by repeat (first | (with_reducible first | exact HB.out | apply zad | apply zab | apply zae) | exact HB.out)⟩⟩
      ·
       replace c15 := Bool.eq_false_iff.mpr c15
       subst c15
       have H1 : (chaperonlaw07_ConsistKnown.j0 k false) = some r := by rw [if_neg (show ¬ (false = true) by decide)] at H; exact H
       clear H
       have H := H1
       clear H1
       have H' := zaa.mk H
       clear H
       have Tk1_ := zaa.mk True.intro
       have Tk2_ := zaa.mk True.intro
       have Tk3_ := zaa.mk True.intro
       have Tk4_ := zaa.mk True.intro
       go_wp2_with (first | ((with_reducible refine zaA (f := 7) rfl ?_); refine zbn (some 2) rfl rfl Tryd.func7 k9 rfl #[.string (⟨#[66]⟩ : ByteArray), .string (⟨#[65]⟩ : ByteArray)] rfl m9 ?_; (with_reducible refine (zac.calls k (⟨#[66]⟩ : ByteArray) (⟨#[65]⟩ : ByteArray) true _ A2.out).mono ?_); rintro e w42 ⟨rfl, hb⟩; refine ⟨_, rfl, ?_⟩; have n0_ := zaa.mk (zaj (by repeat (first | (with_reducible first | exact HB.out | apply zad | apply zab | apply zae) | exact HB.out)) hb); clear HB; have HB := n0_; clear n0_; (try clear hb); (try clear hb2); (try clear hk); (try clear hi)) | (clear Tk1_; go_at_call 7; (with_reducible refine (zac.calls k (⟨#[66]⟩ : ByteArray) (⟨#[67]⟩ : ByteArray) true _ A4.out).mono ?_); rintro e w43 ⟨rfl, hb⟩; have n0_ := zaa.mk (zaj (by repeat (first | (with_reducible first | exact HB.out | apply zad | apply zab | apply zae) | exact HB.out)) hb); clear HB; have HB := n0_; clear n0_; (try clear hb); (try clear hb2); (try clear hk); (try clear hi)) | (clear Tk2_; go_at_call 7; (with_reducible refine (zac.calls k (⟨#[68]⟩ : ByteArray) (⟨#[66]⟩ : ByteArray) true _ A6.out).mono ?_); rintro e w44 ⟨rfl, hb⟩; have n0_ := zaa.mk (zaj (by repeat (first | (with_reducible first | exact HB.out | apply zad | apply zab | apply zae) | exact HB.out)) hb); clear HB; have HB := n0_; clear n0_; (try clear hb); (try clear hb2); (try clear hk); (try clear hi)) | (clear Tk3_; go_at_call 7; (with_reducible refine (zac.calls k (⟨#[66]⟩ : ByteArray) (⟨#[68]⟩ : ByteArray) false _ A8.out).mono ?_); rintro e w45 ⟨rfl, hb⟩; have n0_ := zaa.mk (zaj (by repeat (first | (with_reducible first | exact HB.out | apply zad | apply zab | apply zae) | exact HB.out)) hb); clear HB; have HB := n0_; clear n0_; (try clear hb); (try clear hb2); (try clear hk); (try clear hi)) | (clear Tk4_; go_at_call 7; (with_reducible refine (zac.calls k (⟨#[70]⟩ : ByteArray) (⟨#[69]⟩ : ByteArray) false _ A14.out).mono ?_); rintro e w46 ⟨rfl, hb⟩; have n0_ := zaa.mk (zaj (by repeat (first | (with_reducible first | exact HB.out | apply zad | apply zab | apply zae) | exact HB.out)) hb); clear HB; have HB := n0_; clear n0_; (try clear hb); (try clear hb2); (try clear hk); (try clear hi)))
       go_meet
       case rel => exact ⟨_, (false), (by first | rfl | (simp; done) | (simp [*]; done)), H', ⟨by first | omega | exact Nat.le_refl _⟩, ⟨by repeat (first | (with_reducible first | exact HB.out | apply zad | apply zab | apply zae) | exact HB.out)⟩⟩
    ·
     replace c7 := Bool.eq_false_iff.mpr c7
     subst c7
     have H1 : (chaperonlaw07_ConsistKnown.j0 k false) = some r := by rw [if_neg (show ¬ (false = true) by decide)] at H; exact H
     clear H
     have H := H1
     clear H1
     have H' := zaa.mk H
     clear H
     have Tk1_ := zaa.mk True.intro
     have Tk2_ := zaa.mk True.intro
     go_wp2_with (first | ((with_reducible refine zaA (f := 7) rfl ?_); refine zbn (some 2) rfl rfl Tryd.func7 k9 rfl #[.string (⟨#[66]⟩ : ByteArray), .string (⟨#[65]⟩ : ByteArray)] rfl m9 ?_; (with_reducible refine (zac.calls k (⟨#[66]⟩ : ByteArray) (⟨#[65]⟩ : ByteArray) true _ A2.out).mono ?_); rintro e w47 ⟨rfl, hb⟩; refine ⟨_, rfl, ?_⟩; have n0_ := zaa.mk (zaj (by repeat (first | (with_reducible first | exact HB.out | apply zad | apply zab | apply zae) | exact HB.out)) hb); clear HB; have HB := n0_; clear n0_; (try clear hb); (try clear hb2); (try clear hk); (try clear hi)) | (clear Tk1_; go_at_call 7; (with_reducible refine (zac.calls k (⟨#[66]⟩ : ByteArray) (⟨#[67]⟩ : ByteArray) true _ A4.out).mono ?_); rintro e w48 ⟨rfl, hb⟩; have n0_ := zaa.mk (zaj (by repeat (first | (with_reducible first | exact HB.out | apply zad | apply zab | apply zae) | exact HB.out)) hb); clear HB; have HB := n0_; clear n0_; (try clear hb); (try clear hb2); (try clear hk); (try clear hi)) | (clear Tk2_; go_at_call 7; (with_reducible refine (zac.calls k (⟨#[68]⟩ : ByteArray) (⟨#[66]⟩ : ByteArray) false _ A6.out).mono ?_); rintro e w49 ⟨rfl, hb⟩; have n0_ := zaa.mk (zaj (by repeat (first | (with_reducible first | exact HB.out | apply zad | apply zab | apply zae) | exact HB.out)) hb); clear HB; have HB := n0_; clear n0_; (try clear hb); (try clear hb2); (try clear hk); (try clear hi)))
     go_meet
     case rel => exact ⟨_, (false), (by first | rfl | (simp; done) | (simp [*]; done)), H', ⟨by first | omega | exact Nat.le_refl _⟩, ⟨by repeat (first | (with_reducible first | exact HB.out | apply zad | apply zab | apply zae) | exact HB.out)⟩⟩
   ·
    replace c5 := Bool.eq_false_iff.mpr c5
    subst c5
    have H1 : (chaperonlaw07_ConsistKnown.j0 k false) = some r := by rw [if_neg (show ¬ (false = true) by decide)] at H; exact H
    clear H
    have H := H1
    clear H1
    have H' := zaa.mk H
    clear H
    go_wp2_with (first | ((with_reducible refine zaA (f := 7) rfl ?_); refine zbn (some 2) rfl rfl Tryd.func7 k9 rfl #[.string (⟨#[66]⟩ : ByteArray), .string (⟨#[65]⟩ : ByteArray)] rfl m9 ?_; (with_reducible refine (zac.calls k (⟨#[66]⟩ : ByteArray) (⟨#[65]⟩ : ByteArray) true _ A2.out).mono ?_); rintro e w50 ⟨rfl, hb⟩; refine ⟨_, rfl, ?_⟩; have n0_ := zaa.mk (zaj (by repeat (first | (with_reducible first | exact HB.out | apply zad | apply zab | apply zae) | exact HB.out)) hb); clear HB; have HB := n0_; clear n0_; (try clear hb); (try clear hb2); (try clear hk); (try clear hi)) | (go_at_call 7; (with_reducible refine (zac.calls k (⟨#[66]⟩ : ByteArray) (⟨#[67]⟩ : ByteArray) false _ A4.out).mono ?_); rintro e w51 ⟨rfl, hb⟩; have n0_ := zaa.mk (zaj (by repeat (first | (with_reducible first | exact HB.out | apply zad | apply zab | apply zae) | exact HB.out)) hb); clear HB; have HB := n0_; clear n0_; (try clear hb); (try clear hb2); (try clear hk); (try clear hi)))
    go_meet
    case rel => exact ⟨_, (false), (by first | rfl | (simp; done) | (simp [*]; done)), H', ⟨by first | omega | exact Nat.le_refl _⟩, ⟨by repeat (first | (with_reducible first | exact HB.out | apply zad | apply zab | apply zae) | exact HB.out)⟩⟩
  ·
   replace c3 := Bool.eq_false_iff.mpr c3
   subst c3
   have H1 : (chaperonlaw07_ConsistKnown.j0 k false) = some r := by rw [if_neg (show ¬ (false = true) by decide)] at H; exact H
   clear H
   have H := H1
   clear H1
   have H' := zaa.mk H
   clear H
   go_wp2_with (first | ((with_reducible refine zaA (f := 7) rfl ?_); refine zbn (some 2) rfl rfl Tryd.func7 k9 rfl #[.string (⟨#[66]⟩ : ByteArray), .string (⟨#[65]⟩ : ByteArray)] rfl m9 ?_; (with_reducible refine (zac.calls k (⟨#[66]⟩ : ByteArray) (⟨#[65]⟩ : ByteArray) false _ A2.out).mono ?_); rintro e w52 ⟨rfl, hb⟩; refine ⟨_, rfl, ?_⟩; have n0_ := zaa.mk (zaj (by repeat (first | (with_reducible first | exact HB.out | apply zad | apply zab | apply zae) | exact HB.out)) hb); clear HB; have HB := n0_; clear n0_; (try clear hb); (try clear hb2); (try clear hk); (try clear hi)))
   go_meet
   case rel => exact ⟨_, (false), (by first | rfl | (simp; done) | (simp [*]; done)), H', ⟨by first | omega | exact Nat.le_refl _⟩, ⟨by repeat (first | (with_reducible first | exact HB.out | apply zad | apply zab | apply zae) | exact HB.out)⟩⟩
 case rest =>
  clear HC1
  try clear c1
  try clear c2
  try clear p2
  try clear c3
  try clear c5
  try clear c7
  try clear c9
  try clear c15
  try clear c17
  try clear c25
  obtain ⟨kq, x1_0, rfl, HA, HJ0, HB⟩ := hcut
  cases kq with
  | zero => exact absurd HA.out (by simp [chaperonlaw07_ConsistKnown.j0])
  | succ kj0 =>
   have H := HA.out
   clear HA
   simp only [chaperonlaw07_ConsistKnown.j0] at H
   replace H := Option.bind_eq_some_iff.mp H
   obtain ⟨t226, A530, H⟩ := H
   replace H : (if t226 = true then (if x1_0 = true then ((zak.f).bind fun t227 => ((zao.f kj0 t227 (⟨#[65]⟩ : ByteArray) (⟨#[63]⟩ : ByteArray)).bind fun t230 => (if t230 = true then (none) else ((zak.f).bind fun t231 => ((zao.f kj0 t231 (⟨#[69]⟩ : ByteArray) (⟨#[70]⟩ : ByteArray)).bind fun t234 => (some t234)))))) else (none)) else (none)) = some r := H
   have A53 := zaa.mk A530
   clear A530
   by_cases c54 : t226 = true
   ·
    subst c54
    have H1 : (if x1_0 = true then ((zak.f).bind fun t227 => ((zao.f kj0 t227 (⟨#[65]⟩ : ByteArray) (⟨#[63]⟩ : ByteArray)).bind fun t230 => (if t230 = true then (none) else ((zak.f).bind fun t231 => ((zao.f kj0 t231 (⟨#[69]⟩ : ByteArray) (⟨#[70]⟩ : ByteArray)).bind fun t234 => (some t234)))))) else (none)) = some r := by rw [if_pos rfl] at H; exact H
    clear H
    have H := H1
    clear H1
    by_cases c55 : x1_0 = true
    ·
     subst c55
     have H1 : ((zak.f).bind fun t227 => ((zao.f kj0 t227 (⟨#[65]⟩ : ByteArray) (⟨#[63]⟩ : ByteArray)).bind fun t230 => (if t230 = true then (none) else ((zak.f).bind fun t231 => ((zao.f kj0 t231 (⟨#[69]⟩ : ByteArray) (⟨#[70]⟩ : ByteArray)).bind fun t234 => (some t234)))))) = some r := by rw [if_pos rfl] at H; exact H
     clear H
     have H := H1
     clear H1
     replace H := Option.bind_eq_some_iff.mp H
     obtain ⟨t227, A560, H⟩ := H
     replace H : ((zao.f kj0 t227 (⟨#[65]⟩ : ByteArray) (⟨#[63]⟩ : ByteArray)).bind fun t230 => (if t230 = true then (none) else ((zak.f).bind fun t231 => ((zao.f kj0 t231 (⟨#[69]⟩ : ByteArray) (⟨#[70]⟩ : ByteArray)).bind fun t234 => (some t234))))) = some r := H
     have A56 := zaa.mk A560
     clear A560
     replace H := Option.bind_eq_some_iff.mp H
     obtain ⟨t230, A570, H⟩ := H
     replace H : (if t230 = true then (none) else ((zak.f).bind fun t231 => ((zao.f kj0 t231 (⟨#[69]⟩ : ByteArray) (⟨#[70]⟩ : ByteArray)).bind fun t234 => (some t234)))) = some r := H
     have A57 := zaa.mk A570
     clear A570
     by_cases c58 : t230 = true
     ·
      subst c58
      have H1 : (none) = some r := by rw [if_pos rfl] at H; exact H
      clear H
      have H := H1
      clear H1
      exact absurd H s9
     ·
      replace c58 := Bool.eq_false_iff.mpr c58
      subst c58
      have H1 : ((zak.f).bind fun t231 => ((zao.f kj0 t231 (⟨#[69]⟩ : ByteArray) (⟨#[70]⟩ : ByteArray)).bind fun t234 => (some t234))) = some r := by rw [if_neg (show ¬ (false = true) by decide)] at H; exact H
      clear H
      have H := H1
      clear H1
      replace H := Option.bind_eq_some_iff.mp H
      obtain ⟨t231, A590, H⟩ := H
      replace H : ((zao.f kj0 t231 (⟨#[69]⟩ : ByteArray) (⟨#[70]⟩ : ByteArray)).bind fun t234 => (some t234)) = some r := H
      have A59 := zaa.mk A590
      clear A590
      replace H := Option.bind_eq_some_iff.mp H
      obtain ⟨t234, A600, H⟩ := H
      replace H : (some t234) = some r := H
      have A60 := zaa.mk A600
      clear A600
      obtain rfl := Option.some.inj H
      have Tk1_ := zaa.mk True.intro
      have Tk2_ := zaa.mk True.intro
      have Tk3_ := zaa.mk True.intro
      have Tk4_ := zaa.mk True.intro
      go_wp2_with (first | ((with_reducible refine zaA (f := 8) rfl ?_); refine zbn (some 27) rfl rfl Tryd.func8 k9 rfl #[] rfl m9 ?_; (with_reducible refine (zaP.calls kj0  true _ A53.out).mono ?_); rintro e w61 ⟨rfl, hb⟩; refine ⟨_, rfl, ?_⟩; have n0_ := zaa.mk (zaj (by repeat (first | (with_reducible first | exact HB.out | apply zad | apply zab | apply zae) | exact HB.out)) hb); clear HB; have HB := n0_; clear n0_; (try clear hb); (try clear hb2); (try clear hk); (try clear hi)) | (clear Tk1_; go_at_call 10; (with_reducible refine (zak.calls  t227 _ A56.out).mono ?_); rintro e w62 ⟨v228, rfl, ho0, hb⟩; have n0_ := zaa.mk (Kd.zch (Kd.zcb (ok' := fun k_ => True) ho0 (fun k_ hk_ => trivial)) (zaq (by repeat (first | (with_reducible first | exact HB.out | apply zad | apply zab | apply zae) | exact HB.out)))); have n1_ := zaa.mk (zaj (by repeat (first | (with_reducible first | exact HB.out | apply zad | apply zab | apply zae) | exact HB.out)) hb); clear HB; have HO229 := n0_; have HB := n1_; clear n0_ n1_; (try clear hb); (try clear hb2); (try clear hk); (try clear hi); (try clear ho0); obtain ⟨Ao63, co63, eo63⟩ := Kd.zcs HO229.out; subst eo63) | (clear Tk2_; go_at_call 9; (with_reducible refine (zao.calls kj0 _ _ t227 (⟨#[65]⟩ : ByteArray) (⟨#[63]⟩ : ByteArray) false _ ?side1 ?side2 A57.out).mono ?_); (case side1 => repeat (first | exact (Kd.zbD HO229.out).2.2 | (with_reducible refine Kd.zbe ?_ _) | (with_reducible refine Kd.zbj ?_ _) | (with_reducible refine Kd.zbz ?_))); (case side2 => exact (Kd.zbD HO229.out).2.1); rintro e w64 ⟨rfl, hb⟩; have n0_ := zaa.mk (Kd.zb3 (by (with_reducible repeat (first | apply Kd.zaS | apply Kd.zaT | apply Kd.zbc)); exact HO229.out) hb); have n1_ := zaa.mk (zaj (by repeat (first | (with_reducible first | exact HB.out | apply zad | apply zab | apply zae) | exact HB.out)) hb); clear HO229; clear HB; have HO229 := n0_; have HB := n1_; clear n0_ n1_; (try clear hb); (try clear hb2); (try clear hk); (try clear hi)) | (clear Tk3_; go_at_call 10; (with_reducible refine (zak.calls  t231 _ A59.out).mono ?_); rintro e w65 ⟨v232, rfl, ho0, hb⟩; have n0_ := zaa.mk (Kd.zba (by (with_reducible repeat (first | apply Kd.zaS | apply Kd.zaT | apply Kd.zbc)); exact HO229.out) (Kd.zdm ho0) hb); have n1_ := zaa.mk (Kd.zch (Kd.zcb (ok' := fun k_ => some k_ ≠ (.slice Ao63 t227.length co63 : Value).ownBlock) ho0 (fun k_ hk_ => (Kd.fresh' (Kd.N_lt (by (with_reducible repeat (first | apply Kd.zaS | apply Kd.zaT | apply Kd.zbc)); exact HO229.out)) k_ hk_))) (zaq (by repeat (first | (with_reducible first | exact HB.out | apply zad | apply zab | apply zae) | exact HB.out)))); have n2_ := zaa.mk (zaj (by repeat (first | (with_reducible first | exact HB.out | apply zad | apply zab | apply zae) | exact HB.out)) hb); clear HO229; clear HB; have HO229 := n0_; have HO233 := n1_; have HB := n2_; clear n0_ n1_ n2_; (try clear hb); (try clear hb2); (try clear hk); (try clear hi); (try clear ho0); obtain ⟨Ao66, co66, eo66⟩ := Kd.zcs HO233.out; subst eo66) | (clear Tk4_; go_at_call 9; (with_reducible refine (zao.calls kj0 _ _ t231 (⟨#[69]⟩ : ByteArray) (⟨#[70]⟩ : ByteArray) t234 _ ?side1 ?side2 A60.out).mono ?_); (case side1 => repeat (first | exact (Kd.zbD HO233.out).2.2 | (with_reducible refine Kd.zbe ?_ _) | (with_reducible refine Kd.zbj ?_ _) | (with_reducible refine Kd.zbz ?_))); (case side2 => exact (Kd.zbD HO233.out).2.1); rintro e w67 ⟨rfl, hb⟩; have n0_ := zaa.mk (Kd.zb3 (by (with_reducible repeat (first | apply Kd.zaS | apply Kd.zaT | apply Kd.zbc)); exact HO229.out) hb); have n1_ := zaa.mk (Kd.zb3 (by (with_reducible repeat (first | apply Kd.zaS | apply Kd.zaT | apply Kd.zbc)); exact HO233.out) hb); have n2_ := zaa.mk (zaj (by repeat (first | (with_reducible first | exact HB.out | apply zad | apply zab | apply zae) | exact HB.out)) hb); clear HO229; clear HO233; clear HB; have HO229 := n0_; have HO233 := n1_; have HB := n2_; clear n0_ n1_ n2_; (try clear hb); (try clear hb2); (try clear hk); (try clear hi)))
      go_ret
      exact ⟨by first | rfl | (simp [zaF, zaG] <;> rfl) | (simp [*, zaF, zaG] <;> rfl), by repeat (first | (with_reducible first | exact HB.out | apply zad | apply zab | apply zae) | exact HB.out)⟩
    ·
     replace c55 := Bool.eq_false_iff.mpr c55
     subst c55
     have H1 : (none) = some r := by rw [if_neg (show ¬ (false = true) by decide)] at H; exact H
     clear H
     have H := H1
     clear H1
     exact absurd H s9
   ·
    replace c54 := Bool.eq_false_iff.mpr c54
    subst c54
    have H1 : (none) = some r := by rw [if_neg (show ¬ (false = true) by decide)] at H; exact H
    clear H
    have H := H1
    clear H1
    exact absurd H s9
def chaperonlaw07_ConsistKnown.Pure : Prop := ∃ k, chaperonlaw07_ConsistKnown.f k  = some true
theorem chaperonlaw07_ConsistKnown.walk (P : chaperonlaw07_ConsistKnown.Pure)  (w : World) (hG : Go.Proofs.YtfhgmebhdchegaaDoorTab.GW w) :
  Calls Tryd.prog 3 #[] w fun e w' => e = .returned (.bool true) ∧ Below w.heap.size w w' := by
 obtain ⟨k, h⟩ := P  
 refine (chaperonlaw07_ConsistKnown.calls k  true w h).mono ?_
 rintro e w' ⟨rfl, hd⟩
 exact ⟨rfl, hd⟩
end Go.Proofs.YtfhgmebhdchegaaDoor.PAll
end

section
namespace Go.Proofs.YtfhgmebhdchegaaDoor.Pure
open Go.RowKit Go.Proofs.YtfhgmebhdchegaaDoor.PAll Go.Proofs.YtfhgmebhdchegaaDoorW.zai Go.Proofs.YtfhgmebhdchegaaDoorW.zas
theorem ConsistKnown : chaperonlaw07_ConsistKnown.Pure := ⟨20, by kernel_rfl⟩
end Go.Proofs.YtfhgmebhdchegaaDoor.Pure
end
