/- Parts of the proof of one statement, packed: what the program's functions compute. No conditions. -/
import Derived.Test.YtinkbljjpafadaaKC1
import Derived.Test.YtinkbljjpafadaaKC2
import Derived.Test.YtinkbljjpafadaaKC3
set_option linter.unusedSimpArgs false
set_option linter.unusedVariables false
set_option maxRecDepth 100000
set_option maxHeartbeats 8000000
section
namespace Go.Proofs.Ytinkbljjpafadaa.PAll
open Go.RowKit Go.Proofs.YtinkbljjpafadaaW.PrintWords Go.Proofs.YtinkbljjpafadaaW.PrintLast Go.Proofs.YtinkbljjpafadaaW.zaT
attribute [local go_sem] za7 zba zbo zbp zaW zaV za8 za9
attribute [local go_sem high] eqA33
def zaH.l0 : Nat → List (S33) → List (S33) → Int → Option (Bool)
 | 0, _, _, _ => none
 | k + 1, x0, x1, x5 => if x5 < (x0.length : Int) then (if 0 ≤ x5 then (if x5 < (x1.length : Int) then (if (!((((zbH x0 x5).f0).toList) == (((zbH x1 x5).f0).toList)) || (!(((zbH x0 x5).f1) == ((zbH x1 x5).f1)))) = true then (some false) else (zaH.l0 k x0 x1 (wrap64 (x5 + 1)))) else (none)) else (none)) else (some true)
def zaH.f (k : Nat) (l0 : List (S33)) (l1 : List (S33)) : Option (Bool) := if (l0.length : Int) = (l1.length : Int) then (zaH.l0 k l0 l1 0) else (some false)
theorem zaH.zbM : ∀ k, (∀ y0 y1 y2, LeO (zaH.l0 k y0 y1 y2) (zaH.l0 (k + 1) y0 y1 y2))
 | 0 => fun _ _ _ r h => by simp [zaH.l0] at h
 | k + 1 => by
  have ih0 := zaH.zbM k
  ·
   intro y0 y1 y2
   unfold zaH.l0
   repeat' first
   | (with_reducible exact ih0 _ _ _)
   | (with_reducible exact LeO.refl _)
   | (with_reducible exact LeO.none _)
   | (with_reducible refine LeO.ite ?_ ?_)
   | (with_reducible refine LeO.bind ?_ (fun _ => ?_))
   | exact ih0 _ _ _
   | exact LeO.none _
   | refine LeO.ite ?_ ?_
   | refine LeO.bind ?_ (fun _ => ?_)
theorem zaH.mono : ∀ a0 a1 k, LeO (zaH.f k a0 a1) (zaH.f (k + 1) a0 a1) := by
 intro a0 a1 k
 have ih0 := zaH.zbM k
 unfold zaH.f
 repeat' first
   | (with_reducible exact ih0 _ _ _)
   | (with_reducible exact LeO.refl _)
   | (with_reducible exact LeO.none _)
   | (with_reducible refine LeO.ite ?_ ?_)
   | (with_reducible refine LeO.bind ?_ (fun _ => ?_))
   | exact ih0 _ _ _
   | exact LeO.none _
   | refine LeO.ite ?_ ?_
   | refine LeO.bind ?_ (fun _ => ?_)
theorem zaH.calls (k : Nat) (A0 : Option Addr) (c0 : Nat) (l0 : List (S33)) (A1 : Option Addr) (c1 : Nat) (l1 : List (S33)) (r : Bool) (w : World) (hr0 : Kd.C k33 w A0 l0.length l0) (hc0 : l0.length ≤ c0) (hr1 : Kd.C k33 w A1 l1.length l1) (hc1 : l1.length ≤ c1) (h : zaH.f k l0 l1 = some r) :
  Calls Try.prog 7 #[.slice A0 l0.length c0, .slice A1 l1.length c1] w fun e w' => e = .returned (.bool r) ∧ za1 w w' := by
 have hu33 := Try.underlying33
 have HR0 := zaa.mk hr0
 have HC0 := zaa.mk hc0
 clear hr0 hc0
 have HR1 := zaa.mk hr1
 have HC1 := zaa.mk hc1
 clear hr1 hc1
 have H : (if (l0.length : Int) = (l1.length : Int) then (zaH.l0 k l0 l1 0) else (some false)) = some r := h
 clear h
 by_cases c3 : (l0.length : Int) = (l1.length : Int)
 ·
  rw [if_pos c3] at H
  have c3b0 : ((l0.length : Int) == (l1.length : Int)) = true := beq_iff_eq.mpr c3
  have c3b1 : ((l0.length : Int) != (l1.length : Int)) = false := bne_eq_false_iff_eq.mpr c3
  have c3b2 : (l0.length == l1.length) = true := by first | simpa using c3 | (simp at c3 ⊢; omega)
  clear c3
  have H' := zaa.mk H
  clear H
  go_enter Try.func7, Try.ntmps7
  go_wp2
  repeat (go_quiet (fail); try go_wp2)
  go_loopg [5] k (fun kq v5 w' => ∃ (x5_1 : Int), v5 = .int .i64 x5_1 ∧ zaa (zaH.l0 kq l0 l1 x5_1 = some r) ∧ zaa (kq ≤ k) ∧ za1 w w')
  case atStart => exact ⟨(0), (by first | rfl | (simp; done) | (simp [*]; done)), H', ⟨Nat.le_refl _⟩, by repeat (first | exact za1.refl _ | apply za1.step)⟩
  case round =>
   clear H'
   try clear c1
   try clear p2
   try clear c3
   try clear c3b0
   try clear c3b1
   try clear c3b2
   obtain ⟨x5_1, rfl, HA, HK1, ⟨m1, rfl⟩⟩ := hrel
   cases gk with
   | zero => exact absurd HA.out (by simp [zaH.l0])
   | succ k1 =>
    have H := HA.out
    clear HA
    simp only [zaH.l0] at H
    by_cases c4 : x5_1 < (l0.length : Int)
    ·
     rw [if_pos c4] at H
     have c4b0 : decide (x5_1 < (l0.length : Int)) = true := decide_eq_true c4
     clear c4
     by_cases c5 : 0 ≤ x5_1
     ·
      rw [if_pos c5] at H
      have c5b0 : decide (0 ≤ x5_1) = true := decide_eq_true c5
      clear c5
      by_cases c6 : x5_1 < (l1.length : Int)
      ·
       rw [if_pos c6] at H
       have c6b0 : decide (x5_1 < (l1.length : Int)) = true := decide_eq_true c6
       clear c6
       by_cases c7 : (!((((zbH l0 x5_1).f0).toList) == (((zbH l1 x5_1).f0).toList)) || (!(((zbH l0 x5_1).f1) == ((zbH l1 x5_1).f1)))) = true
       ·
        rw [if_pos c7] at H
        have c7b0 : (!((((zbH l0 x5_1).f0).toList) == (((zbH l1 x5_1).f0).toList)) || (!(((zbH l0 x5_1).f1) == ((zbH l1 x5_1).f1)))) = true := c7
        clear c7
        obtain rfl := Option.some.inj H
        have p116 : 0 ≤ (x5_1 : Int) := of_decide_eq_true (by first | (with_reducible assumption) | assumption)
        have q116 : x5_1 < (l0.length : Int) := of_decide_eq_true (by first | (with_reducible assumption) | assumption)
        obtain ⟨ad116, e116, hx116_0, hx116_1⟩ := zdN HR0.out x5_1 p116 q116
        cases e116
        replace p116 := eq_true p116
        replace q116 := eq_true q116
        have p117 : 0 ≤ (x5_1 : Int) := of_decide_eq_true (by first | (with_reducible assumption) | assumption)
        have q117 : x5_1 < (l1.length : Int) := of_decide_eq_true (by first | (with_reducible assumption) | assumption)
        obtain ⟨ad117, e117, hx117_0, hx117_1⟩ := zdN HR1.out x5_1 p117 q117
        cases e117
        replace p117 := eq_true p117
        replace q117 := eq_true q117
        go_wp2
        repeat (go_quiet (fail); try go_wp2)
        go_ret
        exact ⟨by first | rfl | (simp; done) | (simp [*]; done), by repeat (first | exact za1.refl _ | apply za1.step)⟩
       ·
        rw [if_neg c7] at H
        have c7b0 : (!((((zbH l0 x5_1).f0).toList) == (((zbH l1 x5_1).f0).toList)) || (!(((zbH l0 x5_1).f1) == ((zbH l1 x5_1).f1)))) = false := by simpa using c7
        clear c7
        have H' := zaa.mk H
        clear H
        have p116 : 0 ≤ (x5_1 : Int) := of_decide_eq_true (by first | (with_reducible assumption) | assumption)
        have q116 : x5_1 < (l0.length : Int) := of_decide_eq_true (by first | (with_reducible assumption) | assumption)
        obtain ⟨ad116, e116, hx116_0, hx116_1⟩ := zdN HR0.out x5_1 p116 q116
        cases e116
        replace p116 := eq_true p116
        replace q116 := eq_true q116
        have p117 : 0 ≤ (x5_1 : Int) := of_decide_eq_true (by first | (with_reducible assumption) | assumption)
        have q117 : x5_1 < (l1.length : Int) := of_decide_eq_true (by first | (with_reducible assumption) | assumption)
        obtain ⟨ad117, e117, hx117_0, hx117_1⟩ := zdN HR1.out x5_1 p117 q117
        cases e117
        replace p117 := eq_true p117
        replace q117 := eq_true q117
        go_wp2
        repeat (go_quiet (fail); try go_wp2)
        go_roundg k1
        case measure => have := HK1.out; omega
        case rel => exact ⟨(wrap64 (x5_1 + 1)), (by first | rfl | (simp; done) | (simp [*]; done)), H', ⟨by have := HK1.out; omega⟩, by repeat (first | exact za1.refl _ | apply za1.step)⟩
      ·
       rw [if_neg c6] at H
       exact absurd H s9
     ·
      rw [if_neg c5] at H
      exact absurd H s9
    ·
     rw [if_neg c4] at H
     have c4b0 : decide (x5_1 < (l0.length : Int)) = false := decide_eq_false c4
     clear c4
     obtain rfl := Option.some.inj H
     go_wp2
     repeat (go_quiet (fail); try go_wp2)
     go_ret
     exact ⟨by first | rfl | (simp; done) | (simp [*]; done), by repeat (first | exact za1.refl _ | apply za1.step)⟩
 ·
  rw [if_neg c3] at H
  have c3b0 : ((l0.length : Int) == (l1.length : Int)) = false := beq_eq_false_iff_ne.mpr c3
  have c3b1 : ((l0.length : Int) != (l1.length : Int)) = true := bne_iff_ne.mpr c3
  have c3b2 : (l0.length == l1.length) = false := by first | simpa using c3 | (simp at c3 ⊢; omega)
  obtain rfl := Option.some.inj H
  go_enter Try.func7, Try.ntmps7
  go_wp2
  repeat (go_quiet (fail); try go_wp2)
  go_ret
  exact ⟨by first | rfl | (simp; done) | (simp [*]; done), by repeat (first | exact za1.refl _ | apply za1.step)⟩
end Go.Proofs.Ytinkbljjpafadaa.PAll
end

section
namespace Go.Proofs.Ytinkbljjpafadaa.PAll
open Go.RowKit Go.Proofs.YtinkbljjpafadaaW.PrintWords Go.Proofs.YtinkbljjpafadaaW.PrintLast Go.Proofs.YtinkbljjpafadaaW.zaT
attribute [local go_sem] za7 zba zbo zbp zaW zaV za8 za9
def chaperonlaw16_obj.f (a0 : ByteArray) (l1 : List (S35)) : Option (Int × Int × Int × ByteArray × (List (S35))) := some (7, 1, 0, a0, l1)
def zbF.f (a0 : ByteArray) (a1 : Int) : Option (Bool × ByteArray × Int) := some (false, a0, a1)
theorem zbF.calls (a0 : ByteArray) (a1 : Int) (r1 : Bool) (r2 : ByteArray) (r3 : Int) (w : World) (h : zbF.f a0 a1 = some (r1, r2, r3)) :
  Calls Try.prog 10 #[.string a0, .int .i64 a1] w fun e w' => e = .returned (.agg #[.bool r1, .string r2, .int .i64 r3]) ∧ Below w.heap.size w w' := by
 have hu35 := Try.underlying35
 have HB := zaa.mk (Below.refl w.heap.size w)
 have H : (some (false, a0, a1)) = some (r1, r2, r3) := h
 clear h
 simp only [Option.some.injEq, Prod.mk.injEq] at H
 obtain ⟨rfl, rfl, rfl⟩ := H
 go_enter Try.func10, Try.ntmps10
 go_wp2_with (first | ((with_reducible refine zaL (N := 4) rfl ?_); refine zbq (N := 4) (cs := #[.bool false, .string (⟨#[]⟩ : ByteArray), .int .i64 0]) (t := 35) ?_; intro gb145 hg w3 hbox hb; have BK145 := zaa.mk (hbox); have GW145 := zaa.mk (gw hg (bl HB.out) : w.heap.size ≤ gb145); have GE145 := GW145; replace HB := zaa.mk (zan (bl HB.out) hb); clear hb hbox hg; have hcz4_0 : w3.cell? ⟨gb145, 0, none⟩ = some (.bool false) := (zac BK145.out 0).trans rfl; have hcz4_1 : w3.cell? ⟨gb145, 1, none⟩ = some (.string (⟨#[]⟩ : ByteArray)) := (zac BK145.out 1).trans rfl; have hcz4_2 : w3.cell? ⟨gb145, 2, none⟩ = some (.int .i64 0) := (zac BK145.out 2).trans rfl; have hfz4_0 := zab BK145.out 0; have hfz4_1 := zab BK145.out 1; have hfz4_2 := zab BK145.out 2))
 refine bodyPost_ret (results_cell_row rfl _ _ gb145 35 #[.bool false, .string a0, .int .i64 a1] (0, 0) _ rfl (bp BK145.out) Try.underlying35 rfl k9) rfl ?_
 exact ⟨by first | rfl | (simp [zaz, zaA] <;> rfl) | (simp [*, zaz, zaA] <;> rfl), bl HB.out⟩
def zaJ.f  : Option (Int × Int × Int × ByteArray × (List (S35))) := some (1, 3, 0, (⟨#[]⟩ : ByteArray), ([] : List (S35)))
theorem zaJ.calls  (r1 : Int) (r2 : Int) (r3 : Int) (r4 : ByteArray) (r5 : List (S35)) (w : World) (h : zaJ.f  = some (r1, r2, r3, r4, r5)) :
  Calls Try.prog 11 #[] w fun e w' => ∃ v4_ : Value, e = .returned (.agg #[.int .i64 r1, .int .i64 r2, .int .u64 r3, .string r4, v4_]) ∧ Kd.R k35 35 w' w.heap.size (fun _ => True) v4_ r5 ∧ Below w.heap.size w w' := by
 have hu27 := Try.underlying27
 have HB := zaa.mk (Below.refl w.heap.size w)
 have H : (some (1, 3, 0, (⟨#[]⟩ : ByteArray), ([] : List (S35)))) = some (r1, r2, r3, r4, r5) := h
 clear h
 simp only [Option.some.injEq, Prod.mk.injEq] at H
 obtain ⟨rfl, rfl, rfl, rfl, rfl⟩ := H
 go_enter Try.func11, Try.ntmps11
 go_wp2_with (first | ((with_reducible refine zaL (N := 0) rfl ?_); refine zbq (N := 0) (cs := #[.int .i64 0, .int .i64 0, .int .u64 0, .string (⟨#[]⟩ : ByteArray), .slice none 0 0]) (t := 27) ?_; intro gb146 hg w1 hbox hb; have BK146 := zaa.mk (hbox); have GW146 := zaa.mk (gw hg (bl HB.out) : w.heap.size ≤ gb146); have GE146 := GW146; replace HB := zaa.mk (zan (bl HB.out) hb); clear hb hbox hg; have hcz2_0 : w1.cell? ⟨gb146, 0, none⟩ = some (.int .i64 0) := (zac BK146.out 0).trans rfl; have hcz2_1 : w1.cell? ⟨gb146, 1, none⟩ = some (.int .i64 0) := (zac BK146.out 1).trans rfl; have hcz2_2 : w1.cell? ⟨gb146, 2, none⟩ = some (.int .u64 0) := (zac BK146.out 2).trans rfl; have hcz2_3 : w1.cell? ⟨gb146, 3, none⟩ = some (.string (⟨#[]⟩ : ByteArray)) := (zac BK146.out 3).trans rfl; have hcz2_4 : w1.cell? ⟨gb146, 4, none⟩ = some (.slice none 0 0) := (zac BK146.out 4).trans rfl; have hfz2_0 := zab BK146.out 0; have hfz2_1 := zab BK146.out 1; have hfz2_2 := zab BK146.out 2; have hfz2_3 := zab BK146.out 3; have hfz2_4 := zab BK146.out 4))
 refine bodyPost_ret (results_cell_row rfl _ _ gb146 27 #[.int .i64 1, .int .i64 3, .int .u64 0, .string (⟨#[]⟩ : ByteArray), .slice none 0 0] (0, 0) _ rfl (bp BK146.out) Try.underlying27 rfl k9) rfl ?_
 exact ⟨_, by first | rfl | (simp [zaz, zaA] <;> rfl) | (simp [*, zaz, zaA] <;> rfl), by first | exact Kd.R_nil _ _ _ _ _ | exact Kd.N_nil _ _ _ _ _ | exact Kd.V_nil _ _ _ _ _ | exact Kd.Q_nil _ _ _ _ _ | exact Kd.S_nil _ _ _ _ _, bl HB.out⟩
theorem eqA35 (d : Nat) (w : World) (x0 y0 : Bool) (x1 y1 : ByteArray) (x2 y2 : Int) :
  (Op.equalIn (d + 2) 35 (.agg #[.bool x0, .string x1, .int .i64 x2]) (.agg #[.bool y0, .string y1, .int .i64 y2])).run Try.prog w = .ok (x0 == y0 && (x1.toList == y1.toList && (x2 == y2))) w := by
 refine zjf Try.underlying35 k9 ?_
 refine zen (by rfl) (by go_simp; rfl) (by go_simp; rfl) q9 ?_
 refine zen (by rfl) (by go_simp; rfl) (by go_simp; rfl) q9 ?_
 exact zfI (by rfl) (by go_simp; rfl) (by go_simp; rfl) q9
end Go.Proofs.Ytinkbljjpafadaa.PAll
end

section
namespace Go.Proofs.Ytinkbljjpafadaa.PAll
open Go.RowKit Go.Proofs.YtinkbljjpafadaaW.PrintWords Go.Proofs.YtinkbljjpafadaaW.PrintLast Go.Proofs.YtinkbljjpafadaaW.zaT
attribute [local go_sem] za7 zba zbo zbp zaW zaV za8 za9
attribute [local go_sem high] eqA35
def zau.l0 : Nat → List (S35) → List (S35) → Int → Option (Bool)
 | 0, _, _, _ => none
 | k + 1, x0, x1, x5 => if x5 < (x0.length : Int) then (if 0 ≤ x5 then (if x5 < (x1.length : Int) then (if (!(((za3 x0 x5).f0) == ((za3 x1 x5).f0)) || (!((((za3 x0 x5).f1).toList) == (((za3 x1 x5).f1).toList)) || (!(((za3 x0 x5).f2) == ((za3 x1 x5).f2))))) = true then (some false) else (zau.l0 k x0 x1 (wrap64 (x5 + 1)))) else (none)) else (none)) else (some true)
def zau.f (k : Nat) (l0 : List (S35)) (l1 : List (S35)) : Option (Bool) := if (l0.length : Int) = (l1.length : Int) then (zau.l0 k l0 l1 0) else (some false)
theorem zau.zbM : ∀ k, (∀ y0 y1 y2, LeO (zau.l0 k y0 y1 y2) (zau.l0 (k + 1) y0 y1 y2))
 | 0 => fun _ _ _ r h => by simp [zau.l0] at h
 | k + 1 => by
  have ih0 := zau.zbM k
  ·
   intro y0 y1 y2
   unfold zau.l0
   repeat' first
   | (with_reducible exact ih0 _ _ _)
   | (with_reducible exact LeO.refl _)
   | (with_reducible exact LeO.none _)
   | (with_reducible refine LeO.ite ?_ ?_)
   | (with_reducible refine LeO.bind ?_ (fun _ => ?_))
   | exact ih0 _ _ _
   | exact LeO.none _
   | refine LeO.ite ?_ ?_
   | refine LeO.bind ?_ (fun _ => ?_)
theorem zau.mono : ∀ a0 a1 k, LeO (zau.f k a0 a1) (zau.f (k + 1) a0 a1) := by
 intro a0 a1 k
 have ih0 := zau.zbM k
 unfold zau.f
 repeat' first
   | (with_reducible exact ih0 _ _ _)
   | (with_reducible exact LeO.refl _)
   | (with_reducible exact LeO.none _)
   | (with_reducible refine LeO.ite ?_ ?_)
   | (with_reducible refine LeO.bind ?_ (fun _ => ?_))
   | exact ih0 _ _ _
   | exact LeO.none _
   | refine LeO.ite ?_ ?_
   | refine LeO.bind ?_ (fun _ => ?_)
theorem zau.calls (k : Nat) (A0 : Option Addr) (c0 : Nat) (l0 : List (S35)) (A1 : Option Addr) (c1 : Nat) (l1 : List (S35)) (r : Bool) (w : World) (hr0 : Kd.C k35 w A0 l0.length l0) (hc0 : l0.length ≤ c0) (hr1 : Kd.C k35 w A1 l1.length l1) (hc1 : l1.length ≤ c1) (h : zau.f k l0 l1 = some r) :
  Calls Try.prog 35 #[.slice A0 l0.length c0, .slice A1 l1.length c1] w fun e w' => e = .returned (.bool r) ∧ za1 w w' := by
 have hu35 := Try.underlying35
 have HR0 := zaa.mk hr0
 have HC0 := zaa.mk hc0
 clear hr0 hc0
 have HR1 := zaa.mk hr1
 have HC1 := zaa.mk hc1
 clear hr1 hc1
 have H : (if (l0.length : Int) = (l1.length : Int) then (zau.l0 k l0 l1 0) else (some false)) = some r := h
 clear h
 by_cases c3 : (l0.length : Int) = (l1.length : Int)
 ·
  rw [if_pos c3] at H
  have c3b0 : ((l0.length : Int) == (l1.length : Int)) = true := beq_iff_eq.mpr c3
  have c3b1 : ((l0.length : Int) != (l1.length : Int)) = false := bne_eq_false_iff_eq.mpr c3
  have c3b2 : (l0.length == l1.length) = true := by first | simpa using c3 | (simp at c3 ⊢; omega)
  clear c3
  have H' := zaa.mk H
  clear H
  go_enter Try.func35, Try.ntmps35
  go_wp2
  repeat (go_quiet (fail); try go_wp2)
  go_loopg [5] k (fun kq v5 w' => ∃ (x5_1 : Int), v5 = .int .i64 x5_1 ∧ zaa (zau.l0 kq l0 l1 x5_1 = some r) ∧ zaa (kq ≤ k) ∧ za1 w w')
  case atStart => exact ⟨(0), (by first | rfl | (simp; done) | (simp [*]; done)), H', ⟨Nat.le_refl _⟩, by repeat (first | exact za1.refl _ | apply za1.step)⟩
  case round =>
   clear H'
   try clear c1
   try clear p2
   try clear c3
   try clear c3b0
   try clear c3b1
   try clear c3b2
   obtain ⟨x5_1, rfl, HA, HK1, ⟨m1, rfl⟩⟩ := hrel
   cases gk with
   | zero => exact absurd HA.out (by simp [zau.l0])
   | succ k1 =>
    have H := HA.out
    clear HA
    simp only [zau.l0] at H
    by_cases c4 : x5_1 < (l0.length : Int)
    ·
     rw [if_pos c4] at H
     have c4b0 : decide (x5_1 < (l0.length : Int)) = true := decide_eq_true c4
     clear c4
     by_cases c5 : 0 ≤ x5_1
     ·
      rw [if_pos c5] at H
      have c5b0 : decide (0 ≤ x5_1) = true := decide_eq_true c5
      clear c5
      by_cases c6 : x5_1 < (l1.length : Int)
      ·
       rw [if_pos c6] at H
       have c6b0 : decide (x5_1 < (l1.length : Int)) = true := decide_eq_true c6
       clear c6
       by_cases c7 : (!(((za3 l0 x5_1).f0) == ((za3 l1 x5_1).f0)) || (!((((za3 l0 x5_1).f1).toList) == (((za3 l1 x5_1).f1).toList)) || (!(((za3 l0 x5_1).f2) == ((za3 l1 x5_1).f2))))) = true
       ·
        rw [if_pos c7] at H
        have c7b0 : (!(((za3 l0 x5_1).f0) == ((za3 l1 x5_1).f0)) || (!((((za3 l0 x5_1).f1).toList) == (((za3 l1 x5_1).f1).toList)) || (!(((za3 l0 x5_1).f2) == ((za3 l1 x5_1).f2))))) = true := c7
        clear c7
        obtain rfl := Option.some.inj H
        have p147 : 0 ≤ (x5_1 : Int) := of_decide_eq_true (by first | (with_reducible assumption) | assumption)
        have q147 : x5_1 < (l0.length : Int) := of_decide_eq_true (by first | (with_reducible assumption) | assumption)
        obtain ⟨ad147, e147, hx147_0, hx147_1, hx147_2⟩ := zcR HR0.out x5_1 p147 q147
        cases e147
        replace p147 := eq_true p147
        replace q147 := eq_true q147
        have p148 : 0 ≤ (x5_1 : Int) := of_decide_eq_true (by first | (with_reducible assumption) | assumption)
        have q148 : x5_1 < (l1.length : Int) := of_decide_eq_true (by first | (with_reducible assumption) | assumption)
        obtain ⟨ad148, e148, hx148_0, hx148_1, hx148_2⟩ := zcR HR1.out x5_1 p148 q148
        cases e148
        replace p148 := eq_true p148
        replace q148 := eq_true q148
        go_wp2
        repeat (go_quiet (fail); try go_wp2)
        go_ret
        exact ⟨by first | rfl | (simp; done) | (simp [*]; done), by repeat (first | exact za1.refl _ | apply za1.step)⟩
       ·
        rw [if_neg c7] at H
        have c7b0 : (!(((za3 l0 x5_1).f0) == ((za3 l1 x5_1).f0)) || (!((((za3 l0 x5_1).f1).toList) == (((za3 l1 x5_1).f1).toList)) || (!(((za3 l0 x5_1).f2) == ((za3 l1 x5_1).f2))))) = false := by simpa using c7
        clear c7
        have H' := zaa.mk H
        clear H
        have p147 : 0 ≤ (x5_1 : Int) := of_decide_eq_true (by first | (with_reducible assumption) | assumption)
        have q147 : x5_1 < (l0.length : Int) := of_decide_eq_true (by first | (with_reducible assumption) | assumption)
        obtain ⟨ad147, e147, hx147_0, hx147_1, hx147_2⟩ := zcR HR0.out x5_1 p147 q147
        cases e147
        replace p147 := eq_true p147
        replace q147 := eq_true q147
        have p148 : 0 ≤ (x5_1 : Int) := of_decide_eq_true (by first | (with_reducible assumption) | assumption)
        have q148 : x5_1 < (l1.length : Int) := of_decide_eq_true (by first | (with_reducible assumption) | assumption)
        obtain ⟨ad148, e148, hx148_0, hx148_1, hx148_2⟩ := zcR HR1.out x5_1 p148 q148
        cases e148
        replace p148 := eq_true p148
        replace q148 := eq_true q148
        go_wp2
        repeat (go_quiet (fail); try go_wp2)
        go_roundg k1
        case measure => have := HK1.out; omega
        case rel => exact ⟨(wrap64 (x5_1 + 1)), (by first | rfl | (simp; done) | (simp [*]; done)), H', ⟨by have := HK1.out; omega⟩, by repeat (first | exact za1.refl _ | apply za1.step)⟩
      ·
       rw [if_neg c6] at H
       exact absurd H s9
     ·
      rw [if_neg c5] at H
      exact absurd H s9
    ·
     rw [if_neg c4] at H
     have c4b0 : decide (x5_1 < (l0.length : Int)) = false := decide_eq_false c4
     clear c4
     obtain rfl := Option.some.inj H
     go_wp2
     repeat (go_quiet (fail); try go_wp2)
     go_ret
     exact ⟨by first | rfl | (simp; done) | (simp [*]; done), by repeat (first | exact za1.refl _ | apply za1.step)⟩
 ·
  rw [if_neg c3] at H
  have c3b0 : ((l0.length : Int) == (l1.length : Int)) = false := beq_eq_false_iff_ne.mpr c3
  have c3b1 : ((l0.length : Int) != (l1.length : Int)) = true := bne_iff_ne.mpr c3
  have c3b2 : (l0.length == l1.length) = false := by first | simpa using c3 | (simp at c3 ⊢; omega)
  obtain rfl := Option.some.inj H
  go_enter Try.func35, Try.ntmps35
  go_wp2
  repeat (go_quiet (fail); try go_wp2)
  go_ret
  exact ⟨by first | rfl | (simp; done) | (simp [*]; done), by repeat (first | exact za1.refl _ | apply za1.step)⟩
end Go.Proofs.Ytinkbljjpafadaa.PAll
end

section
namespace Go.Proofs.Ytinkbljjpafadaa.PAll
open Go.RowKit Go.Proofs.YtinkbljjpafadaaW.PrintWords Go.Proofs.YtinkbljjpafadaaW.PrintLast Go.Proofs.YtinkbljjpafadaaW.zaT
attribute [local go_sem] za7 zba zbo zbp zaW zaV za8 za9
def zaj.f (k : Nat) (a0_0 : Int) (a0_1 : Int) (a0_2 : Int) (a0_3 : ByteArray) (l0_4 : List (S35)) (a1_0 : Int) (a1_1 : Int) (a1_2 : Int) (a1_3 : ByteArray) (l1_4 : List (S35)) : Option (Bool) := if a0_0 = a1_0 then (if a0_1 = a1_1 then (if a0_2 = a1_2 then (if a0_3.toList = a1_3.toList then ((zau.f k l0_4 l1_4).bind fun t151 => (some t151)) else (some false)) else (some false)) else (some false)) else (some false)
theorem zaj.mono : ∀ a0 a1 a2 a3 a4 a5 a6 a7 a8 a9 k, LeO (zaj.f k a0 a1 a2 a3 a4 a5 a6 a7 a8 a9) (zaj.f (k + 1) a0 a1 a2 a3 a4 a5 a6 a7 a8 a9) := by
 intro a0 a1 a2 a3 a4 a5 a6 a7 a8 a9 k
 unfold zaj.f
 repeat' first
   | (with_reducible exact zau.mono _ _ _)
   | (with_reducible exact LeO.refl _)
   | (with_reducible exact LeO.none _)
   | (with_reducible refine LeO.ite ?_ ?_)
   | (with_reducible refine LeO.bind ?_ (fun _ => ?_))
   | exact zau.mono _ _ _
   | exact LeO.none _
   | refine LeO.ite ?_ ?_
   | refine LeO.bind ?_ (fun _ => ?_)
theorem zaj.calls (k : Nat) (a0_0 : Int) (a0_1 : Int) (a0_2 : Int) (a0_3 : ByteArray) (A0_4 : Option Addr) (c0_4 : Nat) (l0_4 : List (S35)) (a1_0 : Int) (a1_1 : Int) (a1_2 : Int) (a1_3 : ByteArray) (A1_4 : Option Addr) (c1_4 : Nat) (l1_4 : List (S35)) (r : Bool) (w : World) (hr0_4 : Kd.C k35 w A0_4 l0_4.length l0_4) (hc0_4 : l0_4.length ≤ c0_4) (hr1_4 : Kd.C k35 w A1_4 l1_4.length l1_4) (hc1_4 : l1_4.length ≤ c1_4) (h : zaj.f k a0_0 a0_1 a0_2 a0_3 l0_4 a1_0 a1_1 a1_2 a1_3 l1_4 = some r) :
  Calls Try.prog 14 #[.agg #[.int .i64 a0_0, .int .i64 a0_1, .int .u64 a0_2, .string a0_3, .slice A0_4 l0_4.length c0_4], .agg #[.int .i64 a1_0, .int .i64 a1_1, .int .u64 a1_2, .string a1_3, .slice A1_4 l1_4.length c1_4]] w fun e w' => e = .returned (.bool r) ∧ Below w.heap.size w w' := by
 have hu27 := Try.underlying27
 have HR0_4 := zaa.mk hr0_4
 have HC0_4 := zaa.mk hc0_4
 clear hr0_4 hc0_4
 have HR1_4 := zaa.mk hr1_4
 have HC1_4 := zaa.mk hc1_4
 clear hr1_4 hc1_4
 have HB := zaa.mk (Below.refl w.heap.size w)
 have H : (if a0_0 = a1_0 then (if a0_1 = a1_1 then (if a0_2 = a1_2 then (if a0_3.toList = a1_3.toList then ((zau.f k l0_4 l1_4).bind fun t151 => (some t151)) else (some false)) else (some false)) else (some false)) else (some false)) = some r := h
 clear h
 by_cases c3 : a0_0 = a1_0
 ·
  rw [if_pos c3] at H
  have c3b0 : (a0_0 == a1_0) = true := beq_iff_eq.mpr c3
  have c3b1 : (a0_0 != a1_0) = false := bne_eq_false_iff_eq.mpr c3
  clear c3
  by_cases c4 : a0_1 = a1_1
  ·
   rw [if_pos c4] at H
   have c4b0 : (a0_1 == a1_1) = true := beq_iff_eq.mpr c4
   have c4b1 : (a0_1 != a1_1) = false := bne_eq_false_iff_eq.mpr c4
   clear c4
   by_cases c5 : a0_2 = a1_2
   ·
    rw [if_pos c5] at H
    have c5b0 : (a0_2 == a1_2) = true := beq_iff_eq.mpr c5
    have c5b1 : (a0_2 != a1_2) = false := bne_eq_false_iff_eq.mpr c5
    clear c5
    by_cases c6 : a0_3.toList = a1_3.toList
    ·
     rw [if_pos c6] at H
     have c6b0 : (a0_3.toList == a1_3.toList) = true := beq_iff_eq.mpr c6
     have c6b1 : (a0_3.toList != a1_3.toList) = false := bne_eq_false_iff_eq.mpr c6
     clear c6
     replace H := Option.bind_eq_some_iff.mp H
     obtain ⟨t151, A70, H⟩ := H
     replace H : (some t151) = some r := H
     have A7 := zaa.mk A70
     clear A70
     obtain rfl := Option.some.inj H
     go_enter Try.func14, Try.ntmps14
     go_wp2_with (first | ((with_reducible refine zaL (N := 2) rfl ?_); refine zbq (N := 2) (cs := #[.int .i64 a0_0, .int .i64 a0_1, .int .u64 a0_2, .string a0_3, .slice A0_4 l0_4.length c0_4]) (t := 27) ?_; intro gb149 hg w8 hbox hb; have BK149 := zaa.mk (hbox); have GW149 := zaa.mk (gw hg (bl HB.out) : w.heap.size ≤ gb149); have GE149 := GW149; replace HB := zaa.mk (zan (bl HB.out) hb); clear hb hbox hg) | ((with_reducible refine zaL (N := 3) rfl ?_); refine zbq (N := 3) (cs := #[.int .i64 a1_0, .int .i64 a1_1, .int .u64 a1_2, .string a1_3, .slice A1_4 l1_4.length c1_4]) (t := 27) ?_; intro gb150 hg w9 hbox hb; have BK150 := zaa.mk (hbox); have GW150 := zaa.mk (gw hg (bl HB.out) : w.heap.size ≤ gb150); have GE150 := GW150; have NB149_150 := zaa.mk (nl hg BK149.out : gb149 ≠ gb150); have NB150_149 := zaa.mk (ng hg BK149.out : gb150 ≠ gb149); replace BK149 := zaa.mk (zaq (bk BK149.out) hb); replace HB := zaa.mk (zan (bl HB.out) hb); clear hb hbox hg; have hnb10 := NB149_150.out; have hnc10 := NB150_149.out; have hcz11_0 : w9.cell? ⟨gb149, 0, none⟩ = some (.int .i64 a0_0) := (zac BK149.out 0).trans rfl; have hcz11_1 : w9.cell? ⟨gb149, 1, none⟩ = some (.int .i64 a0_1) := (zac BK149.out 1).trans rfl; have hcz11_2 : w9.cell? ⟨gb149, 2, none⟩ = some (.int .u64 a0_2) := (zac BK149.out 2).trans rfl; have hcz11_3 : w9.cell? ⟨gb149, 3, none⟩ = some (.string a0_3) := (zac BK149.out 3).trans rfl; have hcz11_4 : w9.cell? ⟨gb149, 4, none⟩ = some (.slice A0_4 l0_4.length c0_4) := (zac BK149.out 4).trans rfl; have hfz11_0 := zab BK149.out 0; have hfz11_1 := zab BK149.out 1; have hfz11_2 := zab BK149.out 2; have hfz11_3 := zab BK149.out 3; have hfz11_4 := zab BK149.out 4; have hcz12_0 : w9.cell? ⟨gb150, 0, none⟩ = some (.int .i64 a1_0) := (zac BK150.out 0).trans rfl; have hcz12_1 : w9.cell? ⟨gb150, 1, none⟩ = some (.int .i64 a1_1) := (zac BK150.out 1).trans rfl; have hcz12_2 : w9.cell? ⟨gb150, 2, none⟩ = some (.int .u64 a1_2) := (zac BK150.out 2).trans rfl; have hcz12_3 : w9.cell? ⟨gb150, 3, none⟩ = some (.string a1_3) := (zac BK150.out 3).trans rfl; have hcz12_4 : w9.cell? ⟨gb150, 4, none⟩ = some (.slice A1_4 l1_4.length c1_4) := (zac BK150.out 4).trans rfl; have hfz12_0 := zab BK150.out 0; have hfz12_1 := zab BK150.out 1; have hfz12_2 := zab BK150.out 2; have hfz12_3 := zab BK150.out 3; have hfz12_4 := zab BK150.out 4) | (go_at_call 35; (with_reducible refine (zau.calls k _ _ l0_4 _ _ l1_4 t151 _ ?side1 ?side2 ?side3 ?side4 A7.out).mono ?_); (case side1 => repeat (first | exact (Kd.zat HR0_4.out HB.out) | (with_reducible refine Kd.zbr ?_ _) | (with_reducible refine Kd.zbx ?_ _) | (with_reducible refine Kd.zbu ?_))); (case side2 => exact HC0_4.out); (case side3 => repeat (first | exact (Kd.zat HR1_4.out HB.out) | (with_reducible refine Kd.zbr ?_ _) | (with_reducible refine Kd.zbx ?_ _) | (with_reducible refine Kd.zbu ?_))); (case side4 => exact HC1_4.out); rintro e w' ⟨rfl, ⟨nd, rfl⟩⟩))
     go_ret
     exact ⟨by first | rfl | (simp [zaz, zaA] <;> rfl) | (simp [*, zaz, zaA] <;> rfl), bl HB.out⟩
    ·
     rw [if_neg c6] at H
     have c6b0 : (a0_3.toList == a1_3.toList) = false := beq_eq_false_iff_ne.mpr c6
     have c6b1 : (a0_3.toList != a1_3.toList) = true := bne_iff_ne.mpr c6
     obtain rfl := Option.some.inj H
     go_enter Try.func14, Try.ntmps14
     go_wp2_with (first | ((with_reducible refine zaL (N := 2) rfl ?_); refine zbq (N := 2) (cs := #[.int .i64 a0_0, .int .i64 a0_1, .int .u64 a0_2, .string a0_3, .slice A0_4 l0_4.length c0_4]) (t := 27) ?_; intro gb149 hg w13 hbox hb; have BK149 := zaa.mk (hbox); have GW149 := zaa.mk (gw hg (bl HB.out) : w.heap.size ≤ gb149); have GE149 := GW149; replace HB := zaa.mk (zan (bl HB.out) hb); clear hb hbox hg) | ((with_reducible refine zaL (N := 3) rfl ?_); refine zbq (N := 3) (cs := #[.int .i64 a1_0, .int .i64 a1_1, .int .u64 a1_2, .string a1_3, .slice A1_4 l1_4.length c1_4]) (t := 27) ?_; intro gb150 hg w14 hbox hb; have BK150 := zaa.mk (hbox); have GW150 := zaa.mk (gw hg (bl HB.out) : w.heap.size ≤ gb150); have GE150 := GW150; have NB149_150 := zaa.mk (nl hg BK149.out : gb149 ≠ gb150); have NB150_149 := zaa.mk (ng hg BK149.out : gb150 ≠ gb149); replace BK149 := zaa.mk (zaq (bk BK149.out) hb); replace HB := zaa.mk (zan (bl HB.out) hb); clear hb hbox hg; have hnb15 := NB149_150.out; have hnc15 := NB150_149.out; have hcz16_0 : w14.cell? ⟨gb149, 0, none⟩ = some (.int .i64 a0_0) := (zac BK149.out 0).trans rfl; have hcz16_1 : w14.cell? ⟨gb149, 1, none⟩ = some (.int .i64 a0_1) := (zac BK149.out 1).trans rfl; have hcz16_2 : w14.cell? ⟨gb149, 2, none⟩ = some (.int .u64 a0_2) := (zac BK149.out 2).trans rfl; have hcz16_3 : w14.cell? ⟨gb149, 3, none⟩ = some (.string a0_3) := (zac BK149.out 3).trans rfl; have hcz16_4 : w14.cell? ⟨gb149, 4, none⟩ = some (.slice A0_4 l0_4.length c0_4) := (zac BK149.out 4).trans rfl; have hfz16_0 := zab BK149.out 0; have hfz16_1 := zab BK149.out 1; have hfz16_2 := zab BK149.out 2; have hfz16_3 := zab BK149.out 3; have hfz16_4 := zab BK149.out 4; have hcz17_0 : w14.cell? ⟨gb150, 0, none⟩ = some (.int .i64 a1_0) := (zac BK150.out 0).trans rfl; have hcz17_1 : w14.cell? ⟨gb150, 1, none⟩ = some (.int .i64 a1_1) := (zac BK150.out 1).trans rfl; have hcz17_2 : w14.cell? ⟨gb150, 2, none⟩ = some (.int .u64 a1_2) := (zac BK150.out 2).trans rfl; have hcz17_3 : w14.cell? ⟨gb150, 3, none⟩ = some (.string a1_3) := (zac BK150.out 3).trans rfl; have hcz17_4 : w14.cell? ⟨gb150, 4, none⟩ = some (.slice A1_4 l1_4.length c1_4) := (zac BK150.out 4).trans rfl; have hfz17_0 := zab BK150.out 0; have hfz17_1 := zab BK150.out 1; have hfz17_2 := zab BK150.out 2; have hfz17_3 := zab BK150.out 3; have hfz17_4 := zab BK150.out 4))
     go_ret
     exact ⟨by first | rfl | (simp [zaz, zaA] <;> rfl) | (simp [*, zaz, zaA] <;> rfl), bl HB.out⟩
   ·
    rw [if_neg c5] at H
    have c5b0 : (a0_2 == a1_2) = false := beq_eq_false_iff_ne.mpr c5
    have c5b1 : (a0_2 != a1_2) = true := bne_iff_ne.mpr c5
    obtain rfl := Option.some.inj H
    go_enter Try.func14, Try.ntmps14
    go_wp2_with (first | ((with_reducible refine zaL (N := 2) rfl ?_); refine zbq (N := 2) (cs := #[.int .i64 a0_0, .int .i64 a0_1, .int .u64 a0_2, .string a0_3, .slice A0_4 l0_4.length c0_4]) (t := 27) ?_; intro gb149 hg w18 hbox hb; have BK149 := zaa.mk (hbox); have GW149 := zaa.mk (gw hg (bl HB.out) : w.heap.size ≤ gb149); have GE149 := GW149; replace HB := zaa.mk (zan (bl HB.out) hb); clear hb hbox hg) | ((with_reducible refine zaL (N := 3) rfl ?_); refine zbq (N := 3) (cs := #[.int .i64 a1_0, .int .i64 a1_1, .int .u64 a1_2, .string a1_3, .slice A1_4 l1_4.length c1_4]) (t := 27) ?_; intro gb150 hg w19 hbox hb; have BK150 := zaa.mk (hbox); have GW150 := zaa.mk (gw hg (bl HB.out) : w.heap.size ≤ gb150); have GE150 := GW150; have NB149_150 := zaa.mk (nl hg BK149.out : gb149 ≠ gb150); have NB150_149 := zaa.mk (ng hg BK149.out : gb150 ≠ gb149); replace BK149 := zaa.mk (zaq (bk BK149.out) hb); replace HB := zaa.mk (zan (bl HB.out) hb); clear hb hbox hg; have hnb20 := NB149_150.out; have hnc20 := NB150_149.out; have hcz21_0 : w19.cell? ⟨gb149, 0, none⟩ = some (.int .i64 a0_0) := (zac BK149.out 0).trans rfl; have hcz21_1 : w19.cell? ⟨gb149, 1, none⟩ = some (.int .i64 a0_1) := (zac BK149.out 1).trans rfl; have hcz21_2 : w19.cell? ⟨gb149, 2, none⟩ = some (.int .u64 a0_2) := (zac BK149.out 2).trans rfl; have hcz21_3 : w19.cell? ⟨gb149, 3, none⟩ = some (.string a0_3) := (zac BK149.out 3).trans rfl; have hcz21_4 : w19.cell? ⟨gb149, 4, none⟩ = some (.slice A0_4 l0_4.length c0_4) := (zac BK149.out 4).trans rfl; have hfz21_0 := zab BK149.out 0; have hfz21_1 := zab BK149.out 1; have hfz21_2 := zab BK149.out 2; have hfz21_3 := zab BK149.out 3; have hfz21_4 := zab BK149.out 4; have hcz22_0 : w19.cell? ⟨gb150, 0, none⟩ = some (.int .i64 a1_0) := (zac BK150.out 0).trans rfl; have hcz22_1 : w19.cell? ⟨gb150, 1, none⟩ = some (.int .i64 a1_1) := (zac BK150.out 1).trans rfl; have hcz22_2 : w19.cell? ⟨gb150, 2, none⟩ = some (.int .u64 a1_2) := (zac BK150.out 2).trans rfl; have hcz22_3 : w19.cell? ⟨gb150, 3, none⟩ = some (.string a1_3) := (zac BK150.out 3).trans rfl; have hcz22_4 : w19.cell? ⟨gb150, 4, none⟩ = some (.slice A1_4 l1_4.length c1_4) := (zac BK150.out 4).trans rfl; have hfz22_0 := zab BK150.out 0; have hfz22_1 := zab BK150.out 1; have hfz22_2 := zab BK150.out 2; have hfz22_3 := zab BK150.out 3; have hfz22_4 := zab BK150.out 4))
    go_ret
    exact ⟨by first | rfl | (simp [zaz, zaA] <;> rfl) | (simp [*, zaz, zaA] <;> rfl), bl HB.out⟩
  ·
   rw [if_neg c4] at H
   have c4b0 : (a0_1 == a1_1) = false := beq_eq_false_iff_ne.mpr c4
   have c4b1 : (a0_1 != a1_1) = true := bne_iff_ne.mpr c4
   obtain rfl := Option.some.inj H
   go_enter Try.func14, Try.ntmps14
   go_wp2_with (first | ((with_reducible refine zaL (N := 2) rfl ?_); refine zbq (N := 2) (cs := #[.int .i64 a0_0, .int .i64 a0_1, .int .u64 a0_2, .string a0_3, .slice A0_4 l0_4.length c0_4]) (t := 27) ?_; intro gb149 hg w23 hbox hb; have BK149 := zaa.mk (hbox); have GW149 := zaa.mk (gw hg (bl HB.out) : w.heap.size ≤ gb149); have GE149 := GW149; replace HB := zaa.mk (zan (bl HB.out) hb); clear hb hbox hg) | ((with_reducible refine zaL (N := 3) rfl ?_); refine zbq (N := 3) (cs := #[.int .i64 a1_0, .int .i64 a1_1, .int .u64 a1_2, .string a1_3, .slice A1_4 l1_4.length c1_4]) (t := 27) ?_; intro gb150 hg w24 hbox hb; have BK150 := zaa.mk (hbox); have GW150 := zaa.mk (gw hg (bl HB.out) : w.heap.size ≤ gb150); have GE150 := GW150; have NB149_150 := zaa.mk (nl hg BK149.out : gb149 ≠ gb150); have NB150_149 := zaa.mk (ng hg BK149.out : gb150 ≠ gb149); replace BK149 := zaa.mk (zaq (bk BK149.out) hb); replace HB := zaa.mk (zan (bl HB.out) hb); clear hb hbox hg; have hnb25 := NB149_150.out; have hnc25 := NB150_149.out; have hcz26_0 : w24.cell? ⟨gb149, 0, none⟩ = some (.int .i64 a0_0) := (zac BK149.out 0).trans rfl; have hcz26_1 : w24.cell? ⟨gb149, 1, none⟩ = some (.int .i64 a0_1) := (zac BK149.out 1).trans rfl; have hcz26_2 : w24.cell? ⟨gb149, 2, none⟩ = some (.int .u64 a0_2) := (zac BK149.out 2).trans rfl; have hcz26_3 : w24.cell? ⟨gb149, 3, none⟩ = some (.string a0_3) := (zac BK149.out 3).trans rfl; have hcz26_4 : w24.cell? ⟨gb149, 4, none⟩ = some (.slice A0_4 l0_4.length c0_4) := (zac BK149.out 4).trans rfl; have hfz26_0 := zab BK149.out 0; have hfz26_1 := zab BK149.out 1; have hfz26_2 := zab BK149.out 2; have hfz26_3 := zab BK149.out 3; have hfz26_4 := zab BK149.out 4; have hcz27_0 : w24.cell? ⟨gb150, 0, none⟩ = some (.int .i64 a1_0) := (zac BK150.out 0).trans rfl; have hcz27_1 : w24.cell? ⟨gb150, 1, none⟩ = some (.int .i64 a1_1) := (zac BK150.out 1).trans rfl; have hcz27_2 : w24.cell? ⟨gb150, 2, none⟩ = some (.int .u64 a1_2) := (zac BK150.out 2).trans rfl; have hcz27_3 : w24.cell? ⟨gb150, 3, none⟩ = some (.string a1_3) := (zac BK150.out 3).trans rfl; have hcz27_4 : w24.cell? ⟨gb150, 4, none⟩ = some (.slice A1_4 l1_4.length c1_4) := (zac BK150.out 4).trans rfl; have hfz27_0 := zab BK150.out 0; have hfz27_1 := zab BK150.out 1; have hfz27_2 := zab BK150.out 2; have hfz27_3 := zab BK150.out 3; have hfz27_4 := zab BK150.out 4))
   go_ret
   exact ⟨by first | rfl | (simp [zaz, zaA] <;> rfl) | (simp [*, zaz, zaA] <;> rfl), bl HB.out⟩
 ·
  rw [if_neg c3] at H
  have c3b0 : (a0_0 == a1_0) = false := beq_eq_false_iff_ne.mpr c3
  have c3b1 : (a0_0 != a1_0) = true := bne_iff_ne.mpr c3
  obtain rfl := Option.some.inj H
  go_enter Try.func14, Try.ntmps14
  go_wp2_with (first | ((with_reducible refine zaL (N := 2) rfl ?_); refine zbq (N := 2) (cs := #[.int .i64 a0_0, .int .i64 a0_1, .int .u64 a0_2, .string a0_3, .slice A0_4 l0_4.length c0_4]) (t := 27) ?_; intro gb149 hg w28 hbox hb; have BK149 := zaa.mk (hbox); have GW149 := zaa.mk (gw hg (bl HB.out) : w.heap.size ≤ gb149); have GE149 := GW149; replace HB := zaa.mk (zan (bl HB.out) hb); clear hb hbox hg) | ((with_reducible refine zaL (N := 3) rfl ?_); refine zbq (N := 3) (cs := #[.int .i64 a1_0, .int .i64 a1_1, .int .u64 a1_2, .string a1_3, .slice A1_4 l1_4.length c1_4]) (t := 27) ?_; intro gb150 hg w29 hbox hb; have BK150 := zaa.mk (hbox); have GW150 := zaa.mk (gw hg (bl HB.out) : w.heap.size ≤ gb150); have GE150 := GW150; have NB149_150 := zaa.mk (nl hg BK149.out : gb149 ≠ gb150); have NB150_149 := zaa.mk (ng hg BK149.out : gb150 ≠ gb149); replace BK149 := zaa.mk (zaq (bk BK149.out) hb); replace HB := zaa.mk (zan (bl HB.out) hb); clear hb hbox hg; have hnb30 := NB149_150.out; have hnc30 := NB150_149.out; have hcz31_0 : w29.cell? ⟨gb149, 0, none⟩ = some (.int .i64 a0_0) := (zac BK149.out 0).trans rfl; have hcz31_1 : w29.cell? ⟨gb149, 1, none⟩ = some (.int .i64 a0_1) := (zac BK149.out 1).trans rfl; have hcz31_2 : w29.cell? ⟨gb149, 2, none⟩ = some (.int .u64 a0_2) := (zac BK149.out 2).trans rfl; have hcz31_3 : w29.cell? ⟨gb149, 3, none⟩ = some (.string a0_3) := (zac BK149.out 3).trans rfl; have hcz31_4 : w29.cell? ⟨gb149, 4, none⟩ = some (.slice A0_4 l0_4.length c0_4) := (zac BK149.out 4).trans rfl; have hfz31_0 := zab BK149.out 0; have hfz31_1 := zab BK149.out 1; have hfz31_2 := zab BK149.out 2; have hfz31_3 := zab BK149.out 3; have hfz31_4 := zab BK149.out 4; have hcz32_0 : w29.cell? ⟨gb150, 0, none⟩ = some (.int .i64 a1_0) := (zac BK150.out 0).trans rfl; have hcz32_1 : w29.cell? ⟨gb150, 1, none⟩ = some (.int .i64 a1_1) := (zac BK150.out 1).trans rfl; have hcz32_2 : w29.cell? ⟨gb150, 2, none⟩ = some (.int .u64 a1_2) := (zac BK150.out 2).trans rfl; have hcz32_3 : w29.cell? ⟨gb150, 3, none⟩ = some (.string a1_3) := (zac BK150.out 3).trans rfl; have hcz32_4 : w29.cell? ⟨gb150, 4, none⟩ = some (.slice A1_4 l1_4.length c1_4) := (zac BK150.out 4).trans rfl; have hfz32_0 := zab BK150.out 0; have hfz32_1 := zab BK150.out 1; have hfz32_2 := zab BK150.out 2; have hfz32_3 := zab BK150.out 3; have hfz32_4 := zab BK150.out 4))
  go_ret
  exact ⟨by first | rfl | (simp [zaz, zaA] <;> rfl) | (simp [*, zaz, zaA] <;> rfl), bl HB.out⟩
def zbz.f (k : Nat) (l0 : List (S64)) (a1_0 : Int) (a1_1 : Int) (a1_2 : Int) (a1_3 : ByteArray) (l1_4 : List (S35)) (a2 : ByteArray) (a3 : Int) (a4 : Bool) : Option (Int × Int × Int × ByteArray × (List (S35))) := (zav.f k l0 a4 a3 a1_0 a1_1 a1_2 a1_3 l1_4 a2).bind fun bt206 => (some (bt206.1, bt206.2.1, bt206.2.2.1, bt206.2.2.2.1, bt206.2.2.2.2))
theorem zbz.mono : ∀ a0 a1 a2 a3 a4 a5 a6 a7 a8 k, LeO (zbz.f k a0 a1 a2 a3 a4 a5 a6 a7 a8) (zbz.f (k + 1) a0 a1 a2 a3 a4 a5 a6 a7 a8) := by
 intro a0 a1 a2 a3 a4 a5 a6 a7 a8 k
 unfold zbz.f
 repeat' first
   | (with_reducible exact zav.mono _ _ _ _ _ _ _ _ _ _)
   | (with_reducible exact LeO.refl _)
   | (with_reducible exact LeO.none _)
   | (with_reducible refine LeO.ite ?_ ?_)
   | (with_reducible refine LeO.bind ?_ (fun _ => ?_))
   | exact zav.mono _ _ _ _ _ _ _ _ _ _
   | exact LeO.none _
   | refine LeO.ite ?_ ?_
   | refine LeO.bind ?_ (fun _ => ?_)
theorem zbz.calls (k : Nat) (A0 : Option Addr) (c0 : Nat) (l0 : List (S64)) (a1_0 : Int) (a1_1 : Int) (a1_2 : Int) (a1_3 : ByteArray) (A1_4 : Option Addr) (c1_4 : Nat) (l1_4 : List (S35)) (a2 : ByteArray) (a3 : Int) (a4 : Bool) (r1 : Int) (r2 : Int) (r3 : Int) (r4 : ByteArray) (r5 : List (S35)) (w : World) (hr0 : Kd.C k64 w A0 l0.length l0) (hc0 : l0.length ≤ c0) (hr1_4 : Kd.C k35 w A1_4 l1_4.length l1_4) (hc1_4 : l1_4.length ≤ c1_4) (h : zbz.f k l0 a1_0 a1_1 a1_2 a1_3 l1_4 a2 a3 a4 = some (r1, r2, r3, r4, r5)) :
  Calls Try.prog 15 #[.slice A0 l0.length c0, .agg #[.int .i64 a1_0, .int .i64 a1_1, .int .u64 a1_2, .string a1_3, .slice A1_4 l1_4.length c1_4], .string a2, .int .i64 a3, .bool a4] w fun e w' => ∃ v4_ : Value, e = .returned (.agg #[.int .i64 r1, .int .i64 r2, .int .u64 r3, .string r4, v4_]) ∧ Kd.R k35 35 w' w.heap.size (fun _ => True) v4_ r5 ∧ Below w.heap.size w w' := by
 have hu27 := Try.underlying27
 have hu73 := Try.underlying73
 have HR0 := zaa.mk hr0
 have HC0 := zaa.mk hc0
 clear hr0 hc0
 have HR1_4 := zaa.mk hr1_4
 have HC1_4 := zaa.mk hc1_4
 clear hr1_4 hc1_4
 have HB := zaa.mk (Below.refl w.heap.size w)
 have H : ((zav.f k l0 a4 a3 a1_0 a1_1 a1_2 a1_3 l1_4 a2).bind fun bt206 => (some (bt206.1, bt206.2.1, bt206.2.2.1, bt206.2.2.2.1, bt206.2.2.2.2))) = some (r1, r2, r3, r4, r5) := h
 clear h
 replace H := Option.bind_eq_some_iff.mp H
 obtain ⟨⟨t206, t207, t208, t209, t210⟩, A60, H⟩ := H
 replace H : (some (t206, t207, t208, t209, t210)) = some (r1, r2, r3, r4, r5) := H
 have A6 := zaa.mk A60
 clear A60
 simp only [Option.some.injEq, Prod.mk.injEq] at H
 obtain ⟨rfl, rfl, rfl, rfl, rfl⟩ := H
 go_enter Try.func15, Try.ntmps15
 go_wp2_with (first | ((with_reducible refine zaL (N := 6) rfl ?_); refine zbq (N := 6) (cs := #[.int .i64 a1_0, .int .i64 a1_1, .int .u64 a1_2, .string a1_3, .slice A1_4 l1_4.length c1_4]) (t := 27) ?_; intro gb204 hg w7 hbox hb; have BK204 := zaa.mk (hbox); have GW204 := zaa.mk (gw hg (bl HB.out) : w.heap.size ≤ gb204); have GE204 := GW204; replace HB := zaa.mk (zan (bl HB.out) hb); clear hb hbox hg) | ((with_reducible refine zaL (N := 10) rfl ?_); refine zbq (N := 10) (cs := #[.int .i64 0, .int .i64 0, .int .u64 0, .string (⟨#[]⟩ : ByteArray), .slice none 0 0]) (t := 27) ?_; intro gb205 hg w8 hbox hb; have BK205 := zaa.mk (hbox); have GW205 := zaa.mk (gw hg (bl HB.out) : w.heap.size ≤ gb205); have GE205 := GW205; have NB204_205 := zaa.mk (nl hg BK204.out : gb204 ≠ gb205); have NB205_204 := zaa.mk (ng hg BK204.out : gb205 ≠ gb204); replace BK204 := zaa.mk (zaq (bk BK204.out) hb); replace HB := zaa.mk (zan (bl HB.out) hb); clear hb hbox hg; have hnb9 := NB204_205.out; have hnc9 := NB205_204.out; have hcz10_0 : w8.cell? ⟨gb204, 0, none⟩ = some (.int .i64 a1_0) := (zac BK204.out 0).trans rfl; have hcz10_1 : w8.cell? ⟨gb204, 1, none⟩ = some (.int .i64 a1_1) := (zac BK204.out 1).trans rfl; have hcz10_2 : w8.cell? ⟨gb204, 2, none⟩ = some (.int .u64 a1_2) := (zac BK204.out 2).trans rfl; have hcz10_3 : w8.cell? ⟨gb204, 3, none⟩ = some (.string a1_3) := (zac BK204.out 3).trans rfl; have hcz10_4 : w8.cell? ⟨gb204, 4, none⟩ = some (.slice A1_4 l1_4.length c1_4) := (zac BK204.out 4).trans rfl; have hfz10_0 := zab BK204.out 0; have hfz10_1 := zab BK204.out 1; have hfz10_2 := zab BK204.out 2; have hfz10_3 := zab BK204.out 3; have hfz10_4 := zab BK204.out 4) | ((with_reducible refine za4 (f := 36) rfl ?_); refine zbX (some 17) rfl rfl Try.func36 k9 rfl #[.agg #[.slice A0 l0.length c0, .bool a4, .int .i64 a3], .agg #[.int .i64 a1_0, .int .i64 a1_1, .int .u64 a1_2, .string a1_3, .slice A1_4 l1_4.length c1_4], .string a2] rfl m9 ?_; (with_reducible refine (zav.calls k _ _ l0 a4 a3 a1_0 a1_1 a1_2 a1_3 _ _ l1_4 a2 t206 t207 t208 t209 t210 _ ?side1 ?side2 ?side3 ?side4 A6.out).mono ?_); (case side1 => repeat (first | exact (Kd.zat HR0.out HB.out) | (with_reducible refine Kd.zbr ?_ _) | (with_reducible refine Kd.zbx ?_ _) | (with_reducible refine Kd.zbu ?_))); (case side2 => exact HC0.out); (case side3 => repeat (first | exact (Kd.zat HR1_4.out HB.out) | (with_reducible refine Kd.zbr ?_ _) | (with_reducible refine Kd.zbx ?_ _) | (with_reducible refine Kd.zbu ?_))); (case side4 => exact HC1_4.out); rintro e w11 ⟨v211, rfl, ho0, hb⟩; refine ⟨_, rfl, ?_⟩; have HO212 := zaa.mk (Kd.zbi ho0 (zaO (bl HB.out))); replace BK204 := zaa.mk (zaq (bk BK204.out) hb); replace BK205 := zaa.mk (zaq (bk BK205.out) hb); replace HB := zaa.mk (zan (bl HB.out) hb); (try clear hb); (try clear hb2); (try clear hk); (try clear hi); (try clear ho0); have hcz12_0 : w11.cell? ⟨gb205, 0, none⟩ = some (.int .i64 0) := (zac BK205.out 0).trans rfl; have hcz12_1 : w11.cell? ⟨gb205, 1, none⟩ = some (.int .i64 0) := (zac BK205.out 1).trans rfl; have hcz12_2 : w11.cell? ⟨gb205, 2, none⟩ = some (.int .u64 0) := (zac BK205.out 2).trans rfl; have hcz12_3 : w11.cell? ⟨gb205, 3, none⟩ = some (.string (⟨#[]⟩ : ByteArray)) := (zac BK205.out 3).trans rfl; have hcz12_4 : w11.cell? ⟨gb205, 4, none⟩ = some (.slice none 0 0) := (zac BK205.out 4).trans rfl; have hfz12_0 := zab BK205.out 0; have hfz12_1 := zab BK205.out 1; have hfz12_2 := zab BK205.out 2; have hfz12_3 := zab BK205.out 3; have hfz12_4 := zab BK205.out 4; obtain ⟨Ao13, co13, eo13⟩ := Kd.zbj HO212.out; subst eo13))
 refine bodyPost_ret (results_cell_row rfl _ _ gb205 27 #[.int .i64 t206, .int .i64 t207, .int .u64 t208, .string t209, .slice Ao13 t210.length co13] (0, 0) _ rfl (bp BK205.out) Try.underlying27 rfl k9) rfl ?_
 exact ⟨_, by first | rfl | (simp [zaz, zaA] <;> rfl) | (simp [*, zaz, zaA] <;> rfl), by (with_reducible repeat (first | apply Kd.zbt | apply Kd.zbA | apply Kd.zbN)); exact Kd.za0 (Kd.R_far (p := ⟨gb205, 4, none⟩) (Kd.R_far (p := ⟨gb205, 3, none⟩) (Kd.R_far (p := ⟨gb205, 2, none⟩) (Kd.R_far (p := ⟨gb205, 1, none⟩) (Kd.R_far (p := ⟨gb205, 0, none⟩) (Kd.zbJ HO212.out BK205.out d9) (fun _ hk => hk.2) (.int .i64 t206)) (fun _ hk => hk.2) (.int .i64 t207)) (fun _ hk => hk.2) (.int .u64 t208)) (fun _ hk => hk.2) (.string t209)) (fun _ hk => hk.2) (.slice Ao13 t210.length co13)) (fun _ hk => trivial), bl HB.out⟩
def zb1.f (k : Nat) (l0 : List (S64)) (a1_0 : Int) (a1_1 : Int) (a1_2 : Int) (a1_3 : ByteArray) (l1_4 : List (S35)) (a2 : ByteArray) (a3 : ByteArray) (a4 : Int) (a5 : Bool) : Option (Int × Int × Int × ByteArray × (List (S35)) × Int) := (zbz.f k l0 a1_0 a1_1 a1_2 a1_3 l1_4 a2 (wrap64 (-a4)) a5).bind fun bt215 => ((zaI.f k l0 bt215.1 bt215.2.1 bt215.2.2.1 bt215.2.2.2.1 bt215.2.2.2.2 a3 a4 a5).bind fun bt222 => (some (bt222.1, bt222.2.1, bt222.2.2.1, bt222.2.2.2.1, bt222.2.2.2.2.1, bt222.2.2.2.2.2)))
theorem zb1.mono : ∀ a0 a1 a2 a3 a4 a5 a6 a7 a8 a9 k, LeO (zb1.f k a0 a1 a2 a3 a4 a5 a6 a7 a8 a9) (zb1.f (k + 1) a0 a1 a2 a3 a4 a5 a6 a7 a8 a9) := by
 intro a0 a1 a2 a3 a4 a5 a6 a7 a8 a9 k
 unfold zb1.f
 repeat' first
   | (with_reducible exact zaI.mono _ _ _ _ _ _ _ _ _ _)
   | (with_reducible exact zbz.mono _ _ _ _ _ _ _ _ _ _)
   | (with_reducible exact LeO.refl _)
   | (with_reducible exact LeO.none _)
   | (with_reducible refine LeO.ite ?_ ?_)
   | (with_reducible refine LeO.bind ?_ (fun _ => ?_))
   | exact zaI.mono _ _ _ _ _ _ _ _ _ _
   | exact zbz.mono _ _ _ _ _ _ _ _ _ _
   | exact LeO.none _
   | refine LeO.ite ?_ ?_
   | refine LeO.bind ?_ (fun _ => ?_)
theorem zb1.calls (k : Nat) (A0 : Option Addr) (c0 : Nat) (l0 : List (S64)) (a1_0 : Int) (a1_1 : Int) (a1_2 : Int) (a1_3 : ByteArray) (A1_4 : Option Addr) (c1_4 : Nat) (l1_4 : List (S35)) (a2 : ByteArray) (a3 : ByteArray) (a4 : Int) (a5 : Bool) (r1 : Int) (r2 : Int) (r3 : Int) (r4 : ByteArray) (r5 : List (S35)) (r6 : Int) (w : World) (hr0 : Kd.C k64 w A0 l0.length l0) (hc0 : l0.length ≤ c0) (hr1_4 : Kd.C k35 w A1_4 l1_4.length l1_4) (hc1_4 : l1_4.length ≤ c1_4) (h : zb1.f k l0 a1_0 a1_1 a1_2 a1_3 l1_4 a2 a3 a4 a5 = some (r1, r2, r3, r4, r5, r6)) :
  Calls Try.prog 25 #[.slice A0 l0.length c0, .agg #[.int .i64 a1_0, .int .i64 a1_1, .int .u64 a1_2, .string a1_3, .slice A1_4 l1_4.length c1_4], .string a2, .string a3, .int .i64 a4, .bool a5] w fun e w' => ∃ v4_ : Value, e = .returned (.tuple #[.agg #[.int .i64 r1, .int .i64 r2, .int .u64 r3, .string r4, v4_], .int .i64 r6]) ∧ Kd.R k35 35 w' w.heap.size (fun _ => True) v4_ r5 ∧ Below w.heap.size w w' := by
 have hu27 := Try.underlying27
 have HR0 := zaa.mk hr0
 have HC0 := zaa.mk hc0
 clear hr0 hc0
 have HR1_4 := zaa.mk hr1_4
 have HC1_4 := zaa.mk hc1_4
 clear hr1_4 hc1_4
 have HB := zaa.mk (Below.refl w.heap.size w)
 have H : ((zbz.f k l0 a1_0 a1_1 a1_2 a1_3 l1_4 a2 (wrap64 (-a4)) a5).bind fun bt215 => ((zaI.f k l0 bt215.1 bt215.2.1 bt215.2.2.1 bt215.2.2.2.1 bt215.2.2.2.2 a3 a4 a5).bind fun bt222 => (some (bt222.1, bt222.2.1, bt222.2.2.1, bt222.2.2.2.1, bt222.2.2.2.2.1, bt222.2.2.2.2.2)))) = some (r1, r2, r3, r4, r5, r6) := h
 clear h
 replace H := Option.bind_eq_some_iff.mp H
 obtain ⟨⟨t215, t216, t217, t218, t219⟩, A70, H⟩ := H
 replace H : ((zaI.f k l0 t215 t216 t217 t218 t219 a3 a4 a5).bind fun bt222 => (some (bt222.1, bt222.2.1, bt222.2.2.1, bt222.2.2.2.1, bt222.2.2.2.2.1, bt222.2.2.2.2.2))) = some (r1, r2, r3, r4, r5, r6) := H
 have A7 := zaa.mk A70
 clear A70
 replace H := Option.bind_eq_some_iff.mp H
 obtain ⟨⟨t222, t223, t224, t225, t226, t229⟩, A80, H⟩ := H
 replace H : (some (t222, t223, t224, t225, t226, t229)) = some (r1, r2, r3, r4, r5, r6) := H
 have A8 := zaa.mk A80
 clear A80
 simp only [Option.some.injEq, Prod.mk.injEq] at H
 obtain ⟨rfl, rfl, rfl, rfl, rfl, rfl⟩ := H
 go_enter Try.func25, Try.ntmps25
 go_wp2_with (first | ((with_reducible refine zaL (N := 7) rfl ?_); refine zbq (N := 7) (cs := #[.int .i64 a1_0, .int .i64 a1_1, .int .u64 a1_2, .string a1_3, .slice A1_4 l1_4.length c1_4]) (t := 27) ?_; intro gb213 hg w9 hbox hb; have BK213 := zaa.mk (hbox); have GW213 := zaa.mk (gw hg (bl HB.out) : w.heap.size ≤ gb213); have GE213 := GW213; replace HB := zaa.mk (zan (bl HB.out) hb); clear hb hbox hg) | ((with_reducible refine zaL (N := 12) rfl ?_); refine zbq (N := 12) (cs := #[.int .i64 0, .int .i64 0, .int .u64 0, .string (⟨#[]⟩ : ByteArray), .slice none 0 0]) (t := 27) ?_; intro gb214 hg w10 hbox hb; have BK214 := zaa.mk (hbox); have GW214 := zaa.mk (gw hg (bl HB.out) : w.heap.size ≤ gb214); have GE214 := GW214; have NB213_214 := zaa.mk (nl hg BK213.out : gb213 ≠ gb214); have NB214_213 := zaa.mk (ng hg BK213.out : gb214 ≠ gb213); replace BK213 := zaa.mk (zaq (bk BK213.out) hb); replace HB := zaa.mk (zan (bl HB.out) hb); clear hb hbox hg; have hnb11 := NB213_214.out; have hnc11 := NB214_213.out; have hcz12_0 : w10.cell? ⟨gb213, 0, none⟩ = some (.int .i64 a1_0) := (zac BK213.out 0).trans rfl; have hcz12_1 : w10.cell? ⟨gb213, 1, none⟩ = some (.int .i64 a1_1) := (zac BK213.out 1).trans rfl; have hcz12_2 : w10.cell? ⟨gb213, 2, none⟩ = some (.int .u64 a1_2) := (zac BK213.out 2).trans rfl; have hcz12_3 : w10.cell? ⟨gb213, 3, none⟩ = some (.string a1_3) := (zac BK213.out 3).trans rfl; have hcz12_4 : w10.cell? ⟨gb213, 4, none⟩ = some (.slice A1_4 l1_4.length c1_4) := (zac BK213.out 4).trans rfl; have hfz12_0 := zab BK213.out 0; have hfz12_1 := zab BK213.out 1; have hfz12_2 := zab BK213.out 2; have hfz12_3 := zab BK213.out 3; have hfz12_4 := zab BK213.out 4) | ((with_reducible refine za4 (f := 15) rfl ?_); refine zbX (some 21) rfl rfl Try.func15 k9 rfl #[.slice A0 l0.length c0, .agg #[.int .i64 a1_0, .int .i64 a1_1, .int .u64 a1_2, .string a1_3, .slice A1_4 l1_4.length c1_4], .string a2, .int .i64 (wrap64 (-a4)), .bool a5] rfl m9 ?_; (with_reducible refine (zbz.calls k _ _ l0 a1_0 a1_1 a1_2 a1_3 _ _ l1_4 a2 (wrap64 (-a4)) a5 t215 t216 t217 t218 t219 _ ?side1 ?side2 ?side3 ?side4 A7.out).mono ?_); (case side1 => repeat (first | exact (Kd.zat HR0.out HB.out) | (with_reducible refine Kd.zbr ?_ _) | (with_reducible refine Kd.zbx ?_ _) | (with_reducible refine Kd.zbu ?_))); (case side2 => exact HC0.out); (case side3 => repeat (first | exact (Kd.zat HR1_4.out HB.out) | (with_reducible refine Kd.zbr ?_ _) | (with_reducible refine Kd.zbx ?_ _) | (with_reducible refine Kd.zbu ?_))); (case side4 => exact HC1_4.out); rintro e w13 ⟨v220, rfl, ho0, hb⟩; refine ⟨_, rfl, ?_⟩; have HO221 := zaa.mk (Kd.zbi ho0 (zaO (bl HB.out))); replace BK213 := zaa.mk (zaq (bk BK213.out) hb); replace BK214 := zaa.mk (zaq (bk BK214.out) hb); replace HB := zaa.mk (zan (bl HB.out) hb); (try clear hb); (try clear hb2); (try clear hk); (try clear hi); (try clear ho0); obtain ⟨Ao14, co14, eo14⟩ := Kd.zbj HO221.out; subst eo14) | ((with_reducible refine za4 (f := 30) rfl ?_); refine zbX (some 25) rfl rfl Try.func30 k9 rfl #[.slice A0 l0.length c0, .agg #[.int .i64 t215, .int .i64 t216, .int .u64 t217, .string t218, .slice Ao14 t219.length co14], .string a3, .int .i64 a4, .bool a5] rfl m9 ?_; (with_reducible refine (zaI.calls k _ _ l0 t215 t216 t217 t218 _ _ t219 a3 a4 a5 t222 t223 t224 t225 t226 t229 _ ?side1 ?side2 ?side3 ?side4 A8.out).mono ?_); (case side1 => repeat (first | exact (Kd.zat HR0.out HB.out) | (with_reducible refine Kd.zbr ?_ _) | (with_reducible refine Kd.zbx ?_ _) | (with_reducible refine Kd.zbu ?_))); (case side2 => exact HC0.out); (case side3 => repeat (first | exact (Kd.zbn HO221.out).2.2 | (with_reducible refine Kd.zbr ?_ _) | (with_reducible refine Kd.zbx ?_ _) | (with_reducible refine Kd.zbu ?_))); (case side4 => exact (Kd.zbn HO221.out).2.1); rintro e w15 ⟨v227, rfl, ho0, hb⟩; refine ⟨_, rfl, ?_⟩; have HO228 := zaa.mk (Kd.zbi (Kd.zeX ho0 (Kd.R_lt (rk HO221.out))) (zaO (bl HB.out))); replace HO221 := zaa.mk (Kd.zcY (rk HO221.out) (Kd.zci ho0) hb); replace BK213 := zaa.mk (zaq (bk BK213.out) hb); replace BK214 := zaa.mk (zaq (bk BK214.out) hb); replace HB := zaa.mk (zan (bl HB.out) hb); (try clear hb); (try clear hb2); (try clear hk); (try clear hi); (try clear ho0); have hcz16_0 : w15.cell? ⟨gb214, 0, none⟩ = some (.int .i64 0) := (zac BK214.out 0).trans rfl; have hcz16_1 : w15.cell? ⟨gb214, 1, none⟩ = some (.int .i64 0) := (zac BK214.out 1).trans rfl; have hcz16_2 : w15.cell? ⟨gb214, 2, none⟩ = some (.int .u64 0) := (zac BK214.out 2).trans rfl; have hcz16_3 : w15.cell? ⟨gb214, 3, none⟩ = some (.string (⟨#[]⟩ : ByteArray)) := (zac BK214.out 3).trans rfl; have hcz16_4 : w15.cell? ⟨gb214, 4, none⟩ = some (.slice none 0 0) := (zac BK214.out 4).trans rfl; have hfz16_0 := zab BK214.out 0; have hfz16_1 := zab BK214.out 1; have hfz16_2 := zab BK214.out 2; have hfz16_3 := zab BK214.out 3; have hfz16_4 := zab BK214.out 4; obtain ⟨Ao17, co17, eo17⟩ := Kd.zbj HO228.out; subst eo17))
 refine bodyPost_ret (zch rfl _ _ gb214 27 #[.int .i64 t222, .int .i64 t223, .int .u64 t224, .string t225, .slice Ao17 t226.length co17] (0, 0) _ rfl (bp BK214.out) Try.underlying27 rfl k9) rfl ?_
 exact ⟨_, by first | rfl | (simp [zaz, zaA] <;> rfl) | (simp [*, zaz, zaA] <;> rfl), by (with_reducible repeat (first | apply Kd.zbt | apply Kd.zbA | apply Kd.zbN)); exact Kd.za0 (Kd.R_far (p := ⟨gb214, 4, none⟩) (Kd.R_far (p := ⟨gb214, 3, none⟩) (Kd.R_far (p := ⟨gb214, 2, none⟩) (Kd.R_far (p := ⟨gb214, 1, none⟩) (Kd.R_far (p := ⟨gb214, 0, none⟩) (Kd.zbJ HO228.out BK214.out d9) (fun _ hk => hk.2) (.int .i64 t222)) (fun _ hk => hk.2) (.int .i64 t223)) (fun _ hk => hk.2) (.int .u64 t224)) (fun _ hk => hk.2) (.string t225)) (fun _ hk => hk.2) (.slice Ao17 t226.length co17)) (fun _ hk => trivial), bl HB.out⟩
def zaP.f (k : Nat) (a0_0 : Int) (a0_1 : Int) (a0_2 : Int) (a0_3 : ByteArray) (l0_4 : List (S35)) (a1 : ByteArray) (a2 : ByteArray) (a3 : Int) (a4_0 : Int) (a4_1 : Int) (a4_2 : Int) (a4_3 : ByteArray) (l4_4 : List (S35)) (a5 : Int) : Option Bool := (zbd.f).bind fun bF4 => (zb1.f k bF4 a0_0 a0_1 a0_2 a0_3 l0_4 a1 a2 a3 false).bind fun bF11 => (zaj.f k bF11.1 bF11.2.1 bF11.2.2.1 bF11.2.2.2.1 bF11.2.2.2.2.1 a4_0 a4_1 a4_2 a4_3 l4_4).bind fun bF14 => (if bF14 = true then (if (bF11.2.2.2.2.2 == a5) = true then some (true) else some (false)) else some (false))
theorem zaP.mono : ∀ a0_0 a0_1 a0_2 a0_3 l0_4 a1 a2 a3 a4_0 a4_1 a4_2 a4_3 l4_4 a5 k, LeO (zaP.f k a0_0 a0_1 a0_2 a0_3 l0_4 a1 a2 a3 a4_0 a4_1 a4_2 a4_3 l4_4 a5) (zaP.f (k + 1) a0_0 a0_1 a0_2 a0_3 l0_4 a1 a2 a3 a4_0 a4_1 a4_2 a4_3 l4_4 a5) := by
 intro a0_0 a0_1 a0_2 a0_3 l0_4 a1 a2 a3 a4_0 a4_1 a4_2 a4_3 l4_4 a5 k
 unfold zaP.f
 repeat' first
  | (with_reducible exact zaj.mono _ _ _ _ _ _ _ _ _ _ _)
  | (with_reducible exact zb1.mono _ _ _ _ _ _ _ _ _ _ _)
  | (with_reducible exact LeO.refl _)
  | (with_reducible exact LeO.none _)
  | (with_reducible refine LeO.ite ?_ ?_)
  | (with_reducible refine LeO.bind ?_ (fun _ => ?_))
open Go.Proofs.YtinkbljjpafadaaRF Go.Proofs.YtinkbljjpafadaaRG in
theorem zaP.calls (k : Nat) (a0_0 : Int) (a0_1 : Int) (a0_2 : Int) (a0_3 : ByteArray) (A0_4 : Option Addr) (c0_4 : Nat) (l0_4 : List (S35)) (a1 : ByteArray) (a2 : ByteArray) (a3 : Int) (a4_0 : Int) (a4_1 : Int) (a4_2 : Int) (a4_3 : ByteArray) (A4_4 : Option Addr) (c4_4 : Nat) (l4_4 : List (S35)) (a5 : Int) (r : Bool) (w : World) (hr0_4 : Kd.C k35 w A0_4 l0_4.length l0_4) (hc0_4 : l0_4.length ≤ c0_4) (hr4_4 : Kd.C k35 w A4_4 l4_4.length l4_4) (hc4_4 : l4_4.length ≤ c4_4) (h : zaP.f k a0_0 a0_1 a0_2 a0_3 l0_4 a1 a2 a3 a4_0 a4_1 a4_2 a4_3 l4_4 a5 = some r) :
  Calls Try.prog 12 #[.agg #[.int .i64 a0_0, .int .i64 a0_1, .int .u64 a0_2, .string a0_3, .slice A0_4 l0_4.length c0_4], .string a1, .string a2, .int .i64 a3, .agg #[.int .i64 a4_0, .int .i64 a4_1, .int .u64 a4_2, .string a4_3, .slice A4_4 l4_4.length c4_4], .int .i64 a5] w fun e w' => e = .returned (.bool r) ∧ Below w.heap.size w w' := by
 unfold zaP.f at h
 have hu27 := Try.underlying27
 have hu33 := Try.underlying33
 have hu35 := Try.underlying35
 have HB := zaa.mk (Below.refl w.heap.size w)
 have PHC0_4 := zaa.mk hr0_4
 have HC0_4 := zaa.mk hr0_4
 clear hr0_4
 have PHC4_4 := zaa.mk hr4_4
 have HC4_4 := zaa.mk hr4_4
 clear hr4_4
 go_enter Try.func12, Try.ntmps12
 refine wp_seq ?_
 refine rgt (N := 32) 0 ?_
 rw [show List.range 0 = [] from rfl]
 intro vs w15_ hr hE
 have hg : Grows w w15_ := hr
 clear hE hr
 rw [show List.range 0 = [] from rfl]
 simp only [ps, ga, pa]
 have hT : Grows w15_ w15_ := Grows.refl _
 obtain ⟨w15_a, hw15_a⟩ : ∃ W, W = w15_.alloc (.cells #[.int .i64 a0_0, .int .i64 a0_1, .int .u64 a0_2, .string a0_3, .slice A0_4 l0_4.length c0_4] 27) := ⟨_, rfl⟩
 obtain ⟨b1_, hb1_⟩ : ∃ n, n = w15_.heap.size := ⟨_, rfl⟩
 refine zbv (i := 0) (r := [1, 2]) (w' := w15_a) 6 (.pointer (some ⟨b1_, 0, none⟩)) rfl rfl (zae rfl) (by rw [hw15_a, hb1_]; go_simp) ?_
 simp only [pa]
 have HXb1 : w15_a.heap[b1_]? = some (.cells #[.int .i64 a0_0, .int .i64 a0_1, .int .u64 a0_2, .string a0_3, .slice A0_4 l0_4.length c0_4] 27 (0, 0)) := by rw [hw15_a, hb1_]; exact at_new _ _ rfl
 replace HXb1 := zaa.mk HXb1
 have hlb1 : w15_.heap.size ≤ b1_ := by rw [hb1_]; exact hT.size
 replace hT : Grows w15_ w15_a := by rw [hw15_a]; exact hT.trans (Grows.alloc _ _)
 clear hw15_a hb1_
 have hwb1 : w.heap.size ≤ b1_ := Nat.le_trans (Nat.le_trans HB.out.size hg.size) hlb1
 obtain ⟨w15_aa, hw15_aa⟩ : ∃ W, W = w15_a.alloc (.cells #[.int .i64 a4_0, .int .i64 a4_1, .int .u64 a4_2, .string a4_3, .slice A4_4 l4_4.length c4_4] 27) := ⟨_, rfl⟩
 obtain ⟨b2_, hb2_⟩ : ∃ n, n = w15_a.heap.size := ⟨_, rfl⟩
 refine zbv (i := 1) (r := [2]) (w' := w15_aa) 10 (.pointer (some ⟨b2_, 0, none⟩)) rfl rfl (zae rfl) (by rw [hw15_aa, hb2_]; go_simp) ?_
 simp only [pa]
 have HXb2 : w15_aa.heap[b2_]? = some (.cells #[.int .i64 a4_0, .int .i64 a4_1, .int .u64 a4_2, .string a4_3, .slice A4_4 l4_4.length c4_4] 27 (0, 0)) := by rw [hw15_aa, hb2_]; exact at_new _ _ rfl
 replace HXb2 := zaa.mk HXb2
 have hX_ := zal HXb1.out (.cells #[.int .i64 a4_0, .int .i64 a4_1, .int .u64 a4_2, .string a4_3, .slice A4_4 l4_4.length c4_4] 27)
 rw [← hw15_aa] at hX_
 replace HXb1 := zaa.mk hX_
 clear hX_
 have hlb2 : w15_.heap.size ≤ b2_ := by rw [hb2_]; exact hT.size
 replace hT : Grows w15_ w15_aa := by rw [hw15_aa]; exact hT.trans (Grows.alloc _ _)
 clear hw15_aa hb2_
 have hwb2 : w.heap.size ≤ b2_ := Nat.le_trans (Nat.le_trans HB.out.size hg.size) hlb2
 skip
 refine zbv (i := 2) (r := []) (w' := w15_aa) 12 (.bool false) rfl rfl (zae rfl) q9 ?_
 simp only [pa]
 replace hg : Grows w w15_aa := hg.trans hT
 clear hT
 refine zaX ?_
 simp only [Exit.then]
 replace HB := hbm HB hg
 clear hg
 replace HC0_4 := cb PHC0_4 HB.out
 replace HC4_4 := cb PHC4_4 HB.out
 refine wp_seq ?_
 replace h := Option.bind_eq_some_iff.1 h
 obtain ⟨t3, F4, h⟩ := h
 try dsimp only at h
 replace F4 := zaa.mk F4
 replace h := Option.bind_eq_some_iff.1 h
 obtain ⟨⟨t5, t6, t7, t8, t9, t10⟩, F11, h⟩ := h
 try dsimp only at h
 replace F11 := zaa.mk F11
 refine zcB (N := 32) 10 [8] Grows k9 k9 rfl Grows.refl Grows.trans rfl rfl rfl rfl k9 ?_
 rw [show List.range 10 = [0, 1, 2, 3, 4, 5, 6, 7, 8, 9] from rfl]
 refine zbW (OneC k64 t3 (fun u => u)) OneC.grows rfl rfl Try.func6 k9 rfl (fun _ _ _ _ => zae rfl) ?_ ?_
 ·
  intro a w' hr hs
  rw [show (#[] : Array Operand).map a.eval = #[] by simp]
  refine (zbd.calls t3 _ F4.out).mono ?_
  rintro e w3 ⟨v, rfl, hN, hb⟩
  obtain ⟨A9, c9, rfl, hc9, hC9⟩ := Kd.zey hN
  exact ⟨_, rfl, hb, A9, c9, rfl, hc9, hC9⟩
 refine rglv (.agg #[.int .i64 a0_0, .int .i64 a0_1, .int .u64 a0_2, .string a0_3, .slice A0_4 l0_4.length c0_4]) ?_ ?_
 ·
  intro a w' hr hs
  have h6 := hs.ov 6 (.pointer (some ⟨b1_, 0, none⟩))
  have x := hr.at (zcd HXb1.out)
  have x0 := zad x 0
  have x1 := zad x 1
  have x2 := zad x 2
  have x3 := zad x 3
  have x4 := zad x 4
  simp only [ga] at x0 x1 x2 x3 x4
  go_simp
 refine rglv (.string a1) ?_ ?_
 ·
  intro a w' hr hs
  have h1 := hs.ov 1 (.string a1)
  go_simp
 refine rglv (.string a2) ?_ ?_
 ·
  intro a w' hr hs
  have h2 := hs.ov 2 (.string a2)
  go_simp
 refine rglv (.int .i64 a3) ?_ ?_
 ·
  intro a w' hr hs
  have h3 := hs.ov 3 (.int .i64 a3)
  go_simp
 refine zbW (OneR k35 35 t9 (vT t5 t6 t7 t8 t10)) OneR.grows rfl rfl Try.func25 k9 rfl (fun _ _ _ _ => zae rfl) ?_ ?_
 ·
  intro a w' hr hs
  have g16 : OneC k64 t3 (fun u => u) (a.tmps[16]?.getD undef) w' := hs.g 4
  obtain ⟨A16, c16, h16, hc16, hC16⟩ := g16.reads
  replace h16 : a.tmps[16]?.getD undef = .slice A16 t3.length c16 := h16
  have h17 := hs.gv 3 rfl rfl
  have h18 := hs.gv 2 rfl rfl
  have h19 := hs.gv 1 rfl rfl
  have h20 := hs.gv 0 rfl rfl
  rw [show (#[Operand.tmp 16, Operand.tmp 17, Operand.tmp 18, Operand.tmp 19, Operand.tmp 20, Operand.const (.bool false)] : Array Operand).map a.eval = #[.slice A16 t3.length c16, .agg #[.int .i64 a0_0, .int .i64 a0_1, .int .u64 a0_2, .string a0_3, .slice A0_4 l0_4.length c0_4], .string a1, .string a2, .int .i64 a3, .bool false] by simp [Act.eval, h16, h17, h18, h19, h20]]
  refine (zb1.calls k A16 c16 t3 a0_0 a0_1 a0_2 a0_3 A0_4 c0_4 l0_4 a1 a2 a3 false t5 t6 t7 t8 t9 t10 _ hC16 hc16 (Kd.zat (Kd.zbu HC0_4.out) hr) hc0_4 F11.out).mono ?_
  rintro e w3 ⟨v, rfl, hR, hb⟩
  exact ⟨_, rfl, hb, OneR.of hR⟩
 refine zcc (OneR k35 35 t9 (vT t5 t6 t7 t8 t10)) OneR.grows Grows.refl rfl (fun _ _ _ _ => zae rfl) ?_ ?_
 ·
  intro a w' hr hs
  obtain ⟨A21, c21, h21, hc21, hC21, hR21⟩ := hs.rd 0 rfl rfl
  simp only [vT] at h21
  exact ⟨.tuple #[.agg #[.int .i64 t5, .int .i64 t6, .int .u64 t7, .string t8, .slice A21 t9.length c21], .int .i64 t10], by go_simp, _, rfl, hR21⟩
 refine zcc (OneR k35 35 t9 (vA t5 t6 t7 t8)) OneR.grows Grows.refl rfl (fun _ _ _ _ => zae rfl) ?_ ?_
 ·
  intro a w' hr hs
  obtain ⟨A15, c15, h15, hc15, hC15, hR15⟩ := hs.rd 0 rfl rfl
  simp only [vT] at h15
  exact ⟨.agg #[.int .i64 t5, .int .i64 t6, .int .u64 t7, .string t8, .slice A15 t9.length c15], by go_simp, _, rfl, hR15⟩
 refine zdl (.int .i64 t10) Grows.refl rfl (fun _ _ _ _ => zae rfl) ?_ ?_
 ·
  intro a w' hr hs w3
  obtain ⟨A15, c15, h15, hc15, hC15, hR15⟩ := hs.rd 1 rfl rfl
  simp only [vT] at h15
  go_simp
 refine zdv (Boxed #[.int .i64 0, .int .i64 0, .int .u64 0, .string (⟨#[]⟩ : ByteArray), .slice none 0 0] 27 w15_aa.heap.size) Boxed.grows rfl (fun _ _ _ _ => zae rfl) ?_ ?_
 ·
  intro a w' hr hs
  exact ⟨_, _, by go_simp, Grows.alloc _ _, Boxed.new hr.size⟩
 intro vs w16_ hr hE
 have g_ : OneR k35 35 t9 (vA t5 t6 t7 t8) (vs 7) w16_ := hE _ (zbs 2 rfl)
 obtain ⟨Au17, cu17, e7, hcu17, hCu17, hRu17⟩ := g_.reads
 clear g_
 replace e7 : vs 7 = .agg #[.int .i64 t5, .int .i64 t6, .int .u64 t7, .string t8, .slice Au17 t9.length cu17] := e7
 have HCu17 := zaa.mk hCu17
 clear hCu17
 have HRu17 := zaa.mk hRu17
 clear hRu17
 have e8 : vs 8 = .int .i64 t10 := hE _ (zbs 1 rfl)
 obtain ⟨b12_, e9, HXb12, hlb12⟩ := hE _ (zbs 0 rfl)
 replace HXb12 := zaa.mk HXb12
 have hwb12 : w.heap.size ≤ b12_ := Nat.le_trans HB.out.size hlb12
 have hneb1b12 : b1_ ≠ b12_ := by have := zai HXb1.out; omega
 have hneb2b12 : b2_ ≠ b12_ := by have := zai HXb2.out; omega
 have hg : Grows w15_aa w16_ := Below.trans (Below.refl w15_aa.heap.size w15_aa).drew hr
 clear hE hr
 rw [show List.range 10 = [0, 1, 2, 3, 4, 5, 6, 7, 8, 9] from rfl]
 simp only [ps, ga, pa, e7, e8, e9]
 clear e7 e8 e9
 have z0 := zad HXb12.out 0
 have f0 := free_at HXb12.out 0
 have z1 := zad HXb12.out 1
 have f1 := free_at HXb12.out 1
 have z2 := zad HXb12.out 2
 have f2 := free_at HXb12.out 2
 have z3 := zad HXb12.out 3
 have f3 := free_at HXb12.out 3
 have z4 := zad HXb12.out 4
 have f4 := free_at HXb12.out 4
 simp only [ga] at z0 z1 z2 z3 z4
 obtain ⟨w16_s, hw16_s⟩ : ∃ W, W = (((((w16_.setCell ⟨b12_, 0, none⟩ (.int .i64 t5)).setCell ⟨b12_, 1, none⟩ (.int .i64 t6)).setCell ⟨b12_, 2, none⟩ (.int .u64 t7)).setCell ⟨b12_, 3, none⟩ (.string t8)).setCell ⟨b12_, 4, none⟩ (.slice Au17 t9.length cu17)) := ⟨_, rfl⟩
 refine ⟨_, w16_s, rfl, by rw [hw16_s]; go_simp, ?_⟩
 clear z0 z1 z2 z3 z4 f0 f1 f2 f3 f4
 have hR_ := (Kd.R_set (Kd.R_set (Kd.R_set (Kd.R_set (Kd.R_set HRu17.out HXb12.out d9 0 (.int .i64 t5)) (zaf HXb12.out 0 (.int .i64 t5) rfl) d9 1 (.int .i64 t6)) (zaf (zaf HXb12.out 0 (.int .i64 t5) rfl) 1 (.int .i64 t6) rfl) d9 2 (.int .u64 t7)) (zaf (zaf (zaf HXb12.out 0 (.int .i64 t5) rfl) 1 (.int .i64 t6) rfl) 2 (.int .u64 t7) rfl) d9 3 (.string t8)) (zaf (zaf (zaf (zaf HXb12.out 0 (.int .i64 t5) rfl) 1 (.int .i64 t6) rfl) 2 (.int .u64 t7) rfl) 3 (.string t8) rfl) d9 4 (.slice Au17 t9.length cu17))
 rw [← hw16_s] at hR_
 have HCu17 := zaa.mk (Kd.zbn hR_).2.2
 replace HRu17 := zaa.mk hR_
 clear hR_
 have hX_ : w16_s.heap[b12_]? = some (.cells #[.int .i64 t5, .int .i64 t6, .int .u64 t7, .string t8, .slice Au17 t9.length cu17] 27 (0, 0)) := by rw [hw16_s]; exact (zaf (zaf (zaf (zaf (zaf HXb12.out 0 (.int .i64 t5) rfl) 1 (.int .i64 t6) rfl) 2 (.int .u64 t7) rfl) 3 (.string t8) rfl) 4 (.slice Au17 t9.length cu17) rfl)
 replace HXb12 := zaa.mk hX_
 clear hX_
 replace hg : Grows w15_aa w16_s := by rw [hw16_s]; exact (setB (setB (setB (setB (setB hg hlb12 (.int .i64 t5)) hlb12 (.int .i64 t6)) hlb12 (.int .u64 t7)) hlb12 (.string t8)) hlb12 (.slice Au17 t9.length cu17))
 clear hw16_s
 refine zbv (i := 11) (r := []) (w' := w16_s) 14 (.int .i64 t10) rfl rfl (zae rfl) q9 ?_
 simp only [pa]
 refine zaX ?_
 simp only [Exit.then]
 replace HXb1 := ab HXb1 hg
 replace HXb2 := ab HXb2 hg
 replace HB := hbm HB hg
 clear hg
 replace HC0_4 := cb PHC0_4 HB.out
 replace HC4_4 := cb PHC4_4 HB.out
 refine wp_seq ?_
 replace h := Option.bind_eq_some_iff.1 h
 obtain ⟨t13, F14, h⟩ := h
 try dsimp only at h
 replace F14 := zaa.mk F14
 by_cases q18 : t13 = true
 ·
  rw [if_pos q18] at h
  obtain rfl : t13 = true := by simpa using q18
  by_cases q19 : (t10 == a5) = true
  ·
   rw [if_pos q19] at h
   have q19a : (t10 == a5) = true := by simpa using q19
   have q19b : decide (t10 = a5) = true := by simpa using q19
   clear q19
   refine rgt (N := 32) 9 ?_
   rw [show List.range 9 = [0, 1, 2, 3, 4, 5, 6, 7, 8] from rfl]
   refine rgv (.agg #[.int .i64 t5, .int .i64 t6, .int .u64 t7, .string t8, .slice Au17 t9.length cu17]) ?_ ?_
   ·
    intro a w' hr hs
    have h13 := hs.ov 13 (.pointer (some ⟨b12_, 0, none⟩))
    have x := hr.at HXb12.out
    have x0 := zad x 0
    have x1 := zad x 1
    have x2 := zad x 2
    have x3 := zad x 3
    have x4 := zad x 4
    simp only [ga] at x0 x1 x2 x3 x4
    go_simp
   refine rgv (.agg #[.int .i64 a4_0, .int .i64 a4_1, .int .u64 a4_2, .string a4_3, .slice A4_4 l4_4.length c4_4]) ?_ ?_
   ·
    intro a w' hr hs
    have h10 := hs.ov 10 (.pointer (some ⟨b2_, 0, none⟩))
    have x := hr.at HXb2.out
    have x0 := zad x 0
    have x1 := zad x 1
    have x2 := zad x 2
    have x3 := zad x 3
    have x4 := zad x 4
    simp only [ga] at x0 x1 x2 x3 x4
    go_simp
   refine rgc (fun v _ => v = .bool true) Try.func14 ?_ ?_
   ·
    intro a w' hr hs
    have h24 := hs.gv 1 rfl rfl
    have h25 := hs.gv 0 rfl rfl
    rw [show (#[Operand.tmp 24, Operand.tmp 25] : Array Operand).map a.eval = #[.agg #[.int .i64 t5, .int .i64 t6, .int .u64 t7, .string t8, .slice Au17 t9.length cu17], .agg #[.int .i64 a4_0, .int .i64 a4_1, .int .u64 a4_2, .string a4_3, .slice A4_4 l4_4.length c4_4]] by simp [Act.eval, h24, h25]]
    refine (zaj.calls k t5 t6 t7 t8 Au17 cu17 t9 a4_0 a4_1 a4_2 a4_3 A4_4 c4_4 l4_4 true _ (Kd.zat HCu17.out hr) hcu17 (Kd.zat HC4_4.out hr) hc4_4 F14.out).mono ?_
    rintro e w3 ⟨rfl, hb⟩
    exact ⟨_, rfl, hb, rfl⟩
   refine rgv (.bool true) ?_ ?_
   ·
    intro a w' hr hs
    have h26 := hs.gv 0 rfl rfl
    go_simp
   refine zaF (.int .i64 t10) Grows.refl rfl (fun a w hr hs => zax (g := 3) (t := 27) rfl rfl (hs.g 0)) ?_ ?_
   ·
    intro a w' hr hs
    have h14 := hs.ov 14 (.int .i64 t10)
    go_simp
   refine zaF (.int .i64 a5) Grows.refl rfl (fun a w hr hs => zax (g := 3) (t := 27) rfl rfl (hs.g 1)) ?_ ?_
   ·
    intro a w' hr hs
    have h5 := hs.ov 5 (.int .i64 a5)
    go_simp
   refine zaF (.bool true) Grows.refl rfl (fun a w hr hs => zax (g := 3) (t := 27) rfl rfl (hs.g 2)) ?_ ?_
   ·
    intro a w' hr hs
    have h28 := hs.gv 1 rfl rfl
    have h29 := hs.gv 0 rfl rfl
    go_simp
   refine rgv (.bool true) ?_ ?_
   ·
    intro a w' hr hs
    have h27 := hs.gv 3 rfl rfl
    have h30 := hs.gv 0 rfl rfl
    go_simp
   refine rgv (.bool true) ?_ ?_
   ·
    intro a w' hr hs
    have h31 := hs.gv 0 rfl rfl
    go_simp
   intro vs w20_ hr hE
   have e8 : vs 8 = .bool true := hE _ (zbs 0 rfl)
   have hg : Grows w16_s w20_ := hr
   clear hE hr
   rw [show List.range 9 = [0, 1, 2, 3, 4, 5, 6, 7, 8] from rfl]
   simp only [ps, ga, pa, e8]
   clear e8
   have hT : Grows w20_ w20_ := Grows.refl _
   replace hg : Grows w16_s w20_ := hg.trans hT
   clear hT
   refine zaX ?_
   simp only [Exit.then]
   replace HCu17 := cb HCu17 hg
   replace HRu17 := rb HRu17 hg
   replace HXb1 := ab HXb1 hg
   replace HXb2 := ab HXb2 hg
   replace HXb12 := ab HXb12 hg
   replace HB := hbm HB hg
   clear hg
   replace HC0_4 := cb PHC0_4 HB.out
   replace HC4_4 := cb PHC4_4 HB.out
   obtain rfl := Option.some.inj h
   go_wp2_with fail
   go_ret
   exact ⟨rfl, HB.out⟩
  ·
   rw [if_neg q19] at h
   have q19a : (t10 == a5) = false := by simpa using q19
   have q19b : decide (t10 = a5) = false := by simpa using q19
   clear q19
   refine rgt (N := 32) 9 ?_
   rw [show List.range 9 = [0, 1, 2, 3, 4, 5, 6, 7, 8] from rfl]
   refine rgv (.agg #[.int .i64 t5, .int .i64 t6, .int .u64 t7, .string t8, .slice Au17 t9.length cu17]) ?_ ?_
   ·
    intro a w' hr hs
    have h13 := hs.ov 13 (.pointer (some ⟨b12_, 0, none⟩))
    have x := hr.at HXb12.out
    have x0 := zad x 0
    have x1 := zad x 1
    have x2 := zad x 2
    have x3 := zad x 3
    have x4 := zad x 4
    simp only [ga] at x0 x1 x2 x3 x4
    go_simp
   refine rgv (.agg #[.int .i64 a4_0, .int .i64 a4_1, .int .u64 a4_2, .string a4_3, .slice A4_4 l4_4.length c4_4]) ?_ ?_
   ·
    intro a w' hr hs
    have h10 := hs.ov 10 (.pointer (some ⟨b2_, 0, none⟩))
    have x := hr.at HXb2.out
    have x0 := zad x 0
    have x1 := zad x 1
    have x2 := zad x 2
    have x3 := zad x 3
    have x4 := zad x 4
    simp only [ga] at x0 x1 x2 x3 x4
    go_simp
   refine rgc (fun v _ => v = .bool true) Try.func14 ?_ ?_
   ·
    intro a w' hr hs
    have h24 := hs.gv 1 rfl rfl
    have h25 := hs.gv 0 rfl rfl
    rw [show (#[Operand.tmp 24, Operand.tmp 25] : Array Operand).map a.eval = #[.agg #[.int .i64 t5, .int .i64 t6, .int .u64 t7, .string t8, .slice Au17 t9.length cu17], .agg #[.int .i64 a4_0, .int .i64 a4_1, .int .u64 a4_2, .string a4_3, .slice A4_4 l4_4.length c4_4]] by simp [Act.eval, h24, h25]]
    refine (zaj.calls k t5 t6 t7 t8 Au17 cu17 t9 a4_0 a4_1 a4_2 a4_3 A4_4 c4_4 l4_4 true _ (Kd.zat HCu17.out hr) hcu17 (Kd.zat HC4_4.out hr) hc4_4 F14.out).mono ?_
    rintro e w3 ⟨rfl, hb⟩
    exact ⟨_, rfl, hb, rfl⟩
   refine rgv (.bool true) ?_ ?_
   ·
    intro a w' hr hs
    have h26 := hs.gv 0 rfl rfl
    go_simp
   refine zaF (.int .i64 t10) Grows.refl rfl (fun a w hr hs => zax (g := 3) (t := 27) rfl rfl (hs.g 0)) ?_ ?_
   ·
    intro a w' hr hs
    have h14 := hs.ov 14 (.int .i64 t10)
    go_simp
   refine zaF (.int .i64 a5) Grows.refl rfl (fun a w hr hs => zax (g := 3) (t := 27) rfl rfl (hs.g 1)) ?_ ?_
   ·
    intro a w' hr hs
    have h5 := hs.ov 5 (.int .i64 a5)
    go_simp
   refine zaF (.bool false) Grows.refl rfl (fun a w hr hs => zax (g := 3) (t := 27) rfl rfl (hs.g 2)) ?_ ?_
   ·
    intro a w' hr hs
    have h28 := hs.gv 1 rfl rfl
    have h29 := hs.gv 0 rfl rfl
    go_simp
   refine rgv (.bool false) ?_ ?_
   ·
    intro a w' hr hs
    have h27 := hs.gv 3 rfl rfl
    have h30 := hs.gv 0 rfl rfl
    go_simp
   refine rgv (.bool false) ?_ ?_
   ·
    intro a w' hr hs
    have h31 := hs.gv 0 rfl rfl
    go_simp
   intro vs w21_ hr hE
   have e8 : vs 8 = .bool false := hE _ (zbs 0 rfl)
   have hg : Grows w16_s w21_ := hr
   clear hE hr
   rw [show List.range 9 = [0, 1, 2, 3, 4, 5, 6, 7, 8] from rfl]
   simp only [ps, ga, pa, e8]
   clear e8
   have hT : Grows w21_ w21_ := Grows.refl _
   replace hg : Grows w16_s w21_ := hg.trans hT
   clear hT
   refine zaX ?_
   simp only [Exit.then]
   replace HCu17 := cb HCu17 hg
   replace HRu17 := rb HRu17 hg
   replace HXb1 := ab HXb1 hg
   replace HXb2 := ab HXb2 hg
   replace HXb12 := ab HXb12 hg
   replace HB := hbm HB hg
   clear hg
   replace HC0_4 := cb PHC0_4 HB.out
   replace HC4_4 := cb PHC4_4 HB.out
   obtain rfl := Option.some.inj h
   go_wp2_with fail
   go_ret
   exact ⟨rfl, HB.out⟩
 ·
  rw [if_neg q18] at h
  obtain rfl : t13 = false := by simpa using q18
  refine rgt (N := 32) 9 ?_
  rw [show List.range 9 = [0, 1, 2, 3, 4, 5, 6, 7, 8] from rfl]
  refine rgv (.agg #[.int .i64 t5, .int .i64 t6, .int .u64 t7, .string t8, .slice Au17 t9.length cu17]) ?_ ?_
  ·
   intro a w' hr hs
   have h13 := hs.ov 13 (.pointer (some ⟨b12_, 0, none⟩))
   have x := hr.at HXb12.out
   have x0 := zad x 0
   have x1 := zad x 1
   have x2 := zad x 2
   have x3 := zad x 3
   have x4 := zad x 4
   simp only [ga] at x0 x1 x2 x3 x4
   go_simp
  refine rgv (.agg #[.int .i64 a4_0, .int .i64 a4_1, .int .u64 a4_2, .string a4_3, .slice A4_4 l4_4.length c4_4]) ?_ ?_
  ·
   intro a w' hr hs
   have h10 := hs.ov 10 (.pointer (some ⟨b2_, 0, none⟩))
   have x := hr.at HXb2.out
   have x0 := zad x 0
   have x1 := zad x 1
   have x2 := zad x 2
   have x3 := zad x 3
   have x4 := zad x 4
   simp only [ga] at x0 x1 x2 x3 x4
   go_simp
  refine rgc (fun v _ => v = .bool false) Try.func14 ?_ ?_
  ·
   intro a w' hr hs
   have h24 := hs.gv 1 rfl rfl
   have h25 := hs.gv 0 rfl rfl
   rw [show (#[Operand.tmp 24, Operand.tmp 25] : Array Operand).map a.eval = #[.agg #[.int .i64 t5, .int .i64 t6, .int .u64 t7, .string t8, .slice Au17 t9.length cu17], .agg #[.int .i64 a4_0, .int .i64 a4_1, .int .u64 a4_2, .string a4_3, .slice A4_4 l4_4.length c4_4]] by simp [Act.eval, h24, h25]]
   refine (zaj.calls k t5 t6 t7 t8 Au17 cu17 t9 a4_0 a4_1 a4_2 a4_3 A4_4 c4_4 l4_4 false _ (Kd.zat HCu17.out hr) hcu17 (Kd.zat HC4_4.out hr) hc4_4 F14.out).mono ?_
   rintro e w3 ⟨rfl, hb⟩
   exact ⟨_, rfl, hb, rfl⟩
  refine rgv (.bool false) ?_ ?_
  ·
   intro a w' hr hs
   have h26 := hs.gv 0 rfl rfl
   go_simp
  refine zbL rfl (fun a w hr hs => (zbl (g := 3) (t := 27) (b' := false) rfl rfl (hs.g 0)).trans rfl) ?_
  refine zbL rfl (fun a w hr hs => (zbl (g := 3) (t := 27) (b' := false) rfl rfl (hs.g 1)).trans rfl) ?_
  refine zbL rfl (fun a w hr hs => (zbl (g := 3) (t := 27) (b' := false) rfl rfl (hs.g 2)).trans rfl) ?_
  refine rgv (.bool false) ?_ ?_
  ·
   intro a w' hr hs
   have h27 := hs.gv 3 rfl rfl
   go_simp
  refine rgv (.bool false) ?_ ?_
  ·
   intro a w' hr hs
   have h31 := hs.gv 0 rfl rfl
   go_simp
  intro vs w22_ hr hE
  have e8 : vs 8 = .bool false := hE _ (zbs 0 rfl)
  have hg : Grows w16_s w22_ := hr
  clear hE hr
  rw [show List.range 9 = [0, 1, 2, 3, 4, 5, 6, 7, 8] from rfl]
  simp only [ps, ga, pa, e8]
  clear e8
  have hT : Grows w22_ w22_ := Grows.refl _
  replace hg : Grows w16_s w22_ := hg.trans hT
  clear hT
  refine zaX ?_
  simp only [Exit.then]
  replace HCu17 := cb HCu17 hg
  replace HRu17 := rb HRu17 hg
  replace HXb1 := ab HXb1 hg
  replace HXb2 := ab HXb2 hg
  replace HXb12 := ab HXb12 hg
  replace HB := hbm HB hg
  clear hg
  replace HC0_4 := cb PHC0_4 HB.out
  replace HC4_4 := cb PHC4_4 HB.out
  obtain rfl := Option.some.inj h
  go_wp2_with fail
  go_ret
  exact ⟨rfl, HB.out⟩
def zaS.f (k : Nat) (a0_0 : Int) (a0_1 : Int) (a0_2 : Int) (a0_3 : ByteArray) (l0_4 : List (S35)) (a1 : ByteArray) (a2 : Int) (a3_0 : Int) (a3_1 : Int) (a3_2 : Int) (a3_3 : ByteArray) (l3_4 : List (S35)) (a4 : Int) : Option Bool := (zbd.f).bind fun bF4 => (zaI.f k bF4 a0_0 a0_1 a0_2 a0_3 l0_4 a1 a2 false).bind fun bF11 => (zaj.f k bF11.1 bF11.2.1 bF11.2.2.1 bF11.2.2.2.1 bF11.2.2.2.2.1 a3_0 a3_1 a3_2 a3_3 l3_4).bind fun bF14 => (if bF14 = true then (if (bF11.2.2.2.2.2 == a4) = true then some (true) else some (false)) else some (false))
theorem zaS.mono : ∀ a0_0 a0_1 a0_2 a0_3 l0_4 a1 a2 a3_0 a3_1 a3_2 a3_3 l3_4 a4 k, LeO (zaS.f k a0_0 a0_1 a0_2 a0_3 l0_4 a1 a2 a3_0 a3_1 a3_2 a3_3 l3_4 a4) (zaS.f (k + 1) a0_0 a0_1 a0_2 a0_3 l0_4 a1 a2 a3_0 a3_1 a3_2 a3_3 l3_4 a4) := by
 intro a0_0 a0_1 a0_2 a0_3 l0_4 a1 a2 a3_0 a3_1 a3_2 a3_3 l3_4 a4 k
 unfold zaS.f
 repeat' first
  | (with_reducible exact zaj.mono _ _ _ _ _ _ _ _ _ _ _)
  | (with_reducible exact zaI.mono _ _ _ _ _ _ _ _ _ _)
  | (with_reducible exact LeO.refl _)
  | (with_reducible exact LeO.none _)
  | (with_reducible refine LeO.ite ?_ ?_)
  | (with_reducible refine LeO.bind ?_ (fun _ => ?_))
open Go.Proofs.YtinkbljjpafadaaRF Go.Proofs.YtinkbljjpafadaaRG in
theorem zaS.calls (k : Nat) (a0_0 : Int) (a0_1 : Int) (a0_2 : Int) (a0_3 : ByteArray) (A0_4 : Option Addr) (c0_4 : Nat) (l0_4 : List (S35)) (a1 : ByteArray) (a2 : Int) (a3_0 : Int) (a3_1 : Int) (a3_2 : Int) (a3_3 : ByteArray) (A3_4 : Option Addr) (c3_4 : Nat) (l3_4 : List (S35)) (a4 : Int) (r : Bool) (w : World) (hr0_4 : Kd.C k35 w A0_4 l0_4.length l0_4) (hc0_4 : l0_4.length ≤ c0_4) (hr3_4 : Kd.C k35 w A3_4 l3_4.length l3_4) (hc3_4 : l3_4.length ≤ c3_4) (h : zaS.f k a0_0 a0_1 a0_2 a0_3 l0_4 a1 a2 a3_0 a3_1 a3_2 a3_3 l3_4 a4 = some r) :
  Calls Try.prog 13 #[.agg #[.int .i64 a0_0, .int .i64 a0_1, .int .u64 a0_2, .string a0_3, .slice A0_4 l0_4.length c0_4], .string a1, .int .i64 a2, .agg #[.int .i64 a3_0, .int .i64 a3_1, .int .u64 a3_2, .string a3_3, .slice A3_4 l3_4.length c3_4], .int .i64 a4] w fun e w' => e = .returned (.bool r) ∧ Below w.heap.size w w' := by
 unfold zaS.f at h
 have hu27 := Try.underlying27
 have hu33 := Try.underlying33
 have hu35 := Try.underlying35
 have HB := zaa.mk (Below.refl w.heap.size w)
 have PHC0_4 := zaa.mk hr0_4
 have HC0_4 := zaa.mk hr0_4
 clear hr0_4
 have PHC3_4 := zaa.mk hr3_4
 have HC3_4 := zaa.mk hr3_4
 clear hr3_4
 go_enter Try.func13, Try.ntmps13
 refine wp_seq ?_
 refine rgt (N := 29) 0 ?_
 rw [show List.range 0 = [] from rfl]
 intro vs w15_ hr hE
 have hg : Grows w w15_ := hr
 clear hE hr
 rw [show List.range 0 = [] from rfl]
 simp only [ps, ga, pa]
 have hT : Grows w15_ w15_ := Grows.refl _
 obtain ⟨w15_a, hw15_a⟩ : ∃ W, W = w15_.alloc (.cells #[.int .i64 a0_0, .int .i64 a0_1, .int .u64 a0_2, .string a0_3, .slice A0_4 l0_4.length c0_4] 27) := ⟨_, rfl⟩
 obtain ⟨b1_, hb1_⟩ : ∃ n, n = w15_.heap.size := ⟨_, rfl⟩
 refine zbv (i := 0) (r := [1, 2]) (w' := w15_a) 5 (.pointer (some ⟨b1_, 0, none⟩)) rfl rfl (zae rfl) (by rw [hw15_a, hb1_]; go_simp) ?_
 simp only [pa]
 have HXb1 : w15_a.heap[b1_]? = some (.cells #[.int .i64 a0_0, .int .i64 a0_1, .int .u64 a0_2, .string a0_3, .slice A0_4 l0_4.length c0_4] 27 (0, 0)) := by rw [hw15_a, hb1_]; exact at_new _ _ rfl
 replace HXb1 := zaa.mk HXb1
 have hlb1 : w15_.heap.size ≤ b1_ := by rw [hb1_]; exact hT.size
 replace hT : Grows w15_ w15_a := by rw [hw15_a]; exact hT.trans (Grows.alloc _ _)
 clear hw15_a hb1_
 have hwb1 : w.heap.size ≤ b1_ := Nat.le_trans (Nat.le_trans HB.out.size hg.size) hlb1
 obtain ⟨w15_aa, hw15_aa⟩ : ∃ W, W = w15_a.alloc (.cells #[.int .i64 a3_0, .int .i64 a3_1, .int .u64 a3_2, .string a3_3, .slice A3_4 l3_4.length c3_4] 27) := ⟨_, rfl⟩
 obtain ⟨b2_, hb2_⟩ : ∃ n, n = w15_a.heap.size := ⟨_, rfl⟩
 refine zbv (i := 1) (r := [2]) (w' := w15_aa) 8 (.pointer (some ⟨b2_, 0, none⟩)) rfl rfl (zae rfl) (by rw [hw15_aa, hb2_]; go_simp) ?_
 simp only [pa]
 have HXb2 : w15_aa.heap[b2_]? = some (.cells #[.int .i64 a3_0, .int .i64 a3_1, .int .u64 a3_2, .string a3_3, .slice A3_4 l3_4.length c3_4] 27 (0, 0)) := by rw [hw15_aa, hb2_]; exact at_new _ _ rfl
 replace HXb2 := zaa.mk HXb2
 have hX_ := zal HXb1.out (.cells #[.int .i64 a3_0, .int .i64 a3_1, .int .u64 a3_2, .string a3_3, .slice A3_4 l3_4.length c3_4] 27)
 rw [← hw15_aa] at hX_
 replace HXb1 := zaa.mk hX_
 clear hX_
 have hlb2 : w15_.heap.size ≤ b2_ := by rw [hb2_]; exact hT.size
 replace hT : Grows w15_ w15_aa := by rw [hw15_aa]; exact hT.trans (Grows.alloc _ _)
 clear hw15_aa hb2_
 have hwb2 : w.heap.size ≤ b2_ := Nat.le_trans (Nat.le_trans HB.out.size hg.size) hlb2
 skip
 refine zbv (i := 2) (r := []) (w' := w15_aa) 10 (.bool false) rfl rfl (zae rfl) q9 ?_
 simp only [pa]
 replace hg : Grows w w15_aa := hg.trans hT
 clear hT
 refine zaX ?_
 simp only [Exit.then]
 replace HB := hbm HB hg
 clear hg
 replace HC0_4 := cb PHC0_4 HB.out
 replace HC3_4 := cb PHC3_4 HB.out
 refine wp_seq ?_
 replace h := Option.bind_eq_some_iff.1 h
 obtain ⟨t3, F4, h⟩ := h
 try dsimp only at h
 replace F4 := zaa.mk F4
 replace h := Option.bind_eq_some_iff.1 h
 obtain ⟨⟨t5, t6, t7, t8, t9, t10⟩, F11, h⟩ := h
 try dsimp only at h
 replace F11 := zaa.mk F11
 refine zcB (N := 29) 9 [7] Grows k9 k9 rfl Grows.refl Grows.trans rfl rfl rfl rfl k9 ?_
 rw [show List.range 9 = [0, 1, 2, 3, 4, 5, 6, 7, 8] from rfl]
 refine zbW (OneC k64 t3 (fun u => u)) OneC.grows rfl rfl Try.func6 k9 rfl (fun _ _ _ _ => zae rfl) ?_ ?_
 ·
  intro a w' hr hs
  rw [show (#[] : Array Operand).map a.eval = #[] by simp]
  refine (zbd.calls t3 _ F4.out).mono ?_
  rintro e w3 ⟨v, rfl, hN, hb⟩
  obtain ⟨A9, c9, rfl, hc9, hC9⟩ := Kd.zey hN
  exact ⟨_, rfl, hb, A9, c9, rfl, hc9, hC9⟩
 refine rglv (.agg #[.int .i64 a0_0, .int .i64 a0_1, .int .u64 a0_2, .string a0_3, .slice A0_4 l0_4.length c0_4]) ?_ ?_
 ·
  intro a w' hr hs
  have h5 := hs.ov 5 (.pointer (some ⟨b1_, 0, none⟩))
  have x := hr.at (zcd HXb1.out)
  have x0 := zad x 0
  have x1 := zad x 1
  have x2 := zad x 2
  have x3 := zad x 3
  have x4 := zad x 4
  simp only [ga] at x0 x1 x2 x3 x4
  go_simp
 refine rglv (.string a1) ?_ ?_
 ·
  intro a w' hr hs
  have h1 := hs.ov 1 (.string a1)
  go_simp
 refine rglv (.int .i64 a2) ?_ ?_
 ·
  intro a w' hr hs
  have h2 := hs.ov 2 (.int .i64 a2)
  go_simp
 refine zbW (OneR k35 35 t9 (vT t5 t6 t7 t8 t10)) OneR.grows rfl rfl Try.func30 k9 rfl (fun _ _ _ _ => zae rfl) ?_ ?_
 ·
  intro a w' hr hs
  have g14 : OneC k64 t3 (fun u => u) (a.tmps[14]?.getD undef) w' := hs.g 3
  obtain ⟨A14, c14, h14, hc14, hC14⟩ := g14.reads
  replace h14 : a.tmps[14]?.getD undef = .slice A14 t3.length c14 := h14
  have h15 := hs.gv 2 rfl rfl
  have h16 := hs.gv 1 rfl rfl
  have h17 := hs.gv 0 rfl rfl
  rw [show (#[Operand.tmp 14, Operand.tmp 15, Operand.tmp 16, Operand.tmp 17, Operand.const (.bool false)] : Array Operand).map a.eval = #[.slice A14 t3.length c14, .agg #[.int .i64 a0_0, .int .i64 a0_1, .int .u64 a0_2, .string a0_3, .slice A0_4 l0_4.length c0_4], .string a1, .int .i64 a2, .bool false] by simp [Act.eval, h14, h15, h16, h17]]
  refine (zaI.calls k A14 c14 t3 a0_0 a0_1 a0_2 a0_3 A0_4 c0_4 l0_4 a1 a2 false t5 t6 t7 t8 t9 t10 _ hC14 hc14 (Kd.zat (Kd.zbu HC0_4.out) hr) hc0_4 F11.out).mono ?_
  rintro e w3 ⟨v, rfl, hR, hb⟩
  exact ⟨_, rfl, hb, OneR.of hR⟩
 refine zcc (OneR k35 35 t9 (vT t5 t6 t7 t8 t10)) OneR.grows Grows.refl rfl (fun _ _ _ _ => zae rfl) ?_ ?_
 ·
  intro a w' hr hs
  obtain ⟨A18, c18, h18, hc18, hC18, hR18⟩ := hs.rd 0 rfl rfl
  simp only [vT] at h18
  exact ⟨.tuple #[.agg #[.int .i64 t5, .int .i64 t6, .int .u64 t7, .string t8, .slice A18 t9.length c18], .int .i64 t10], by go_simp, _, rfl, hR18⟩
 refine zcc (OneR k35 35 t9 (vA t5 t6 t7 t8)) OneR.grows Grows.refl rfl (fun _ _ _ _ => zae rfl) ?_ ?_
 ·
  intro a w' hr hs
  obtain ⟨A13, c13, h13, hc13, hC13, hR13⟩ := hs.rd 0 rfl rfl
  simp only [vT] at h13
  exact ⟨.agg #[.int .i64 t5, .int .i64 t6, .int .u64 t7, .string t8, .slice A13 t9.length c13], by go_simp, _, rfl, hR13⟩
 refine zdl (.int .i64 t10) Grows.refl rfl (fun _ _ _ _ => zae rfl) ?_ ?_
 ·
  intro a w' hr hs w3
  obtain ⟨A13, c13, h13, hc13, hC13, hR13⟩ := hs.rd 1 rfl rfl
  simp only [vT] at h13
  go_simp
 refine zdv (Boxed #[.int .i64 0, .int .i64 0, .int .u64 0, .string (⟨#[]⟩ : ByteArray), .slice none 0 0] 27 w15_aa.heap.size) Boxed.grows rfl (fun _ _ _ _ => zae rfl) ?_ ?_
 ·
  intro a w' hr hs
  exact ⟨_, _, by go_simp, Grows.alloc _ _, Boxed.new hr.size⟩
 intro vs w16_ hr hE
 have g_ : OneR k35 35 t9 (vA t5 t6 t7 t8) (vs 6) w16_ := hE _ (zbs 2 rfl)
 obtain ⟨Au17, cu17, e6, hcu17, hCu17, hRu17⟩ := g_.reads
 clear g_
 replace e6 : vs 6 = .agg #[.int .i64 t5, .int .i64 t6, .int .u64 t7, .string t8, .slice Au17 t9.length cu17] := e6
 have HCu17 := zaa.mk hCu17
 clear hCu17
 have HRu17 := zaa.mk hRu17
 clear hRu17
 have e7 : vs 7 = .int .i64 t10 := hE _ (zbs 1 rfl)
 obtain ⟨b12_, e8, HXb12, hlb12⟩ := hE _ (zbs 0 rfl)
 replace HXb12 := zaa.mk HXb12
 have hwb12 : w.heap.size ≤ b12_ := Nat.le_trans HB.out.size hlb12
 have hneb1b12 : b1_ ≠ b12_ := by have := zai HXb1.out; omega
 have hneb2b12 : b2_ ≠ b12_ := by have := zai HXb2.out; omega
 have hg : Grows w15_aa w16_ := Below.trans (Below.refl w15_aa.heap.size w15_aa).drew hr
 clear hE hr
 rw [show List.range 9 = [0, 1, 2, 3, 4, 5, 6, 7, 8] from rfl]
 simp only [ps, ga, pa, e6, e7, e8]
 clear e6 e7 e8
 have z0 := zad HXb12.out 0
 have f0 := free_at HXb12.out 0
 have z1 := zad HXb12.out 1
 have f1 := free_at HXb12.out 1
 have z2 := zad HXb12.out 2
 have f2 := free_at HXb12.out 2
 have z3 := zad HXb12.out 3
 have f3 := free_at HXb12.out 3
 have z4 := zad HXb12.out 4
 have f4 := free_at HXb12.out 4
 simp only [ga] at z0 z1 z2 z3 z4
 obtain ⟨w16_s, hw16_s⟩ : ∃ W, W = (((((w16_.setCell ⟨b12_, 0, none⟩ (.int .i64 t5)).setCell ⟨b12_, 1, none⟩ (.int .i64 t6)).setCell ⟨b12_, 2, none⟩ (.int .u64 t7)).setCell ⟨b12_, 3, none⟩ (.string t8)).setCell ⟨b12_, 4, none⟩ (.slice Au17 t9.length cu17)) := ⟨_, rfl⟩
 refine ⟨_, w16_s, rfl, by rw [hw16_s]; go_simp, ?_⟩
 clear z0 z1 z2 z3 z4 f0 f1 f2 f3 f4
 have hR_ := (Kd.R_set (Kd.R_set (Kd.R_set (Kd.R_set (Kd.R_set HRu17.out HXb12.out d9 0 (.int .i64 t5)) (zaf HXb12.out 0 (.int .i64 t5) rfl) d9 1 (.int .i64 t6)) (zaf (zaf HXb12.out 0 (.int .i64 t5) rfl) 1 (.int .i64 t6) rfl) d9 2 (.int .u64 t7)) (zaf (zaf (zaf HXb12.out 0 (.int .i64 t5) rfl) 1 (.int .i64 t6) rfl) 2 (.int .u64 t7) rfl) d9 3 (.string t8)) (zaf (zaf (zaf (zaf HXb12.out 0 (.int .i64 t5) rfl) 1 (.int .i64 t6) rfl) 2 (.int .u64 t7) rfl) 3 (.string t8) rfl) d9 4 (.slice Au17 t9.length cu17))
 rw [← hw16_s] at hR_
 have HCu17 := zaa.mk (Kd.zbn hR_).2.2
 replace HRu17 := zaa.mk hR_
 clear hR_
 have hX_ : w16_s.heap[b12_]? = some (.cells #[.int .i64 t5, .int .i64 t6, .int .u64 t7, .string t8, .slice Au17 t9.length cu17] 27 (0, 0)) := by rw [hw16_s]; exact (zaf (zaf (zaf (zaf (zaf HXb12.out 0 (.int .i64 t5) rfl) 1 (.int .i64 t6) rfl) 2 (.int .u64 t7) rfl) 3 (.string t8) rfl) 4 (.slice Au17 t9.length cu17) rfl)
 replace HXb12 := zaa.mk hX_
 clear hX_
 replace hg : Grows w15_aa w16_s := by rw [hw16_s]; exact (setB (setB (setB (setB (setB hg hlb12 (.int .i64 t5)) hlb12 (.int .i64 t6)) hlb12 (.int .u64 t7)) hlb12 (.string t8)) hlb12 (.slice Au17 t9.length cu17))
 clear hw16_s
 refine zbv (i := 10) (r := []) (w' := w16_s) 12 (.int .i64 t10) rfl rfl (zae rfl) q9 ?_
 simp only [pa]
 refine zaX ?_
 simp only [Exit.then]
 replace HXb1 := ab HXb1 hg
 replace HXb2 := ab HXb2 hg
 replace HB := hbm HB hg
 clear hg
 replace HC0_4 := cb PHC0_4 HB.out
 replace HC3_4 := cb PHC3_4 HB.out
 refine wp_seq ?_
 replace h := Option.bind_eq_some_iff.1 h
 obtain ⟨t13, F14, h⟩ := h
 try dsimp only at h
 replace F14 := zaa.mk F14
 by_cases q18 : t13 = true
 ·
  rw [if_pos q18] at h
  obtain rfl : t13 = true := by simpa using q18
  by_cases q19 : (t10 == a4) = true
  ·
   rw [if_pos q19] at h
   have q19a : (t10 == a4) = true := by simpa using q19
   have q19b : decide (t10 = a4) = true := by simpa using q19
   clear q19
   refine rgt (N := 29) 9 ?_
   rw [show List.range 9 = [0, 1, 2, 3, 4, 5, 6, 7, 8] from rfl]
   refine rgv (.agg #[.int .i64 t5, .int .i64 t6, .int .u64 t7, .string t8, .slice Au17 t9.length cu17]) ?_ ?_
   ·
    intro a w' hr hs
    have h11 := hs.ov 11 (.pointer (some ⟨b12_, 0, none⟩))
    have x := hr.at HXb12.out
    have x0 := zad x 0
    have x1 := zad x 1
    have x2 := zad x 2
    have x3 := zad x 3
    have x4 := zad x 4
    simp only [ga] at x0 x1 x2 x3 x4
    go_simp
   refine rgv (.agg #[.int .i64 a3_0, .int .i64 a3_1, .int .u64 a3_2, .string a3_3, .slice A3_4 l3_4.length c3_4]) ?_ ?_
   ·
    intro a w' hr hs
    have h8 := hs.ov 8 (.pointer (some ⟨b2_, 0, none⟩))
    have x := hr.at HXb2.out
    have x0 := zad x 0
    have x1 := zad x 1
    have x2 := zad x 2
    have x3 := zad x 3
    have x4 := zad x 4
    simp only [ga] at x0 x1 x2 x3 x4
    go_simp
   refine rgc (fun v _ => v = .bool true) Try.func14 ?_ ?_
   ·
    intro a w' hr hs
    have h21 := hs.gv 1 rfl rfl
    have h22 := hs.gv 0 rfl rfl
    rw [show (#[Operand.tmp 21, Operand.tmp 22] : Array Operand).map a.eval = #[.agg #[.int .i64 t5, .int .i64 t6, .int .u64 t7, .string t8, .slice Au17 t9.length cu17], .agg #[.int .i64 a3_0, .int .i64 a3_1, .int .u64 a3_2, .string a3_3, .slice A3_4 l3_4.length c3_4]] by simp [Act.eval, h21, h22]]
    refine (zaj.calls k t5 t6 t7 t8 Au17 cu17 t9 a3_0 a3_1 a3_2 a3_3 A3_4 c3_4 l3_4 true _ (Kd.zat HCu17.out hr) hcu17 (Kd.zat HC3_4.out hr) hc3_4 F14.out).mono ?_
    rintro e w3 ⟨rfl, hb⟩
    exact ⟨_, rfl, hb, rfl⟩
   refine rgv (.bool true) ?_ ?_
   ·
    intro a w' hr hs
    have h23 := hs.gv 0 rfl rfl
    go_simp
   refine zaF (.int .i64 t10) Grows.refl rfl (fun a w hr hs => zax (g := 3) (t := 24) rfl rfl (hs.g 0)) ?_ ?_
   ·
    intro a w' hr hs
    have h12 := hs.ov 12 (.int .i64 t10)
    go_simp
   refine zaF (.int .i64 a4) Grows.refl rfl (fun a w hr hs => zax (g := 3) (t := 24) rfl rfl (hs.g 1)) ?_ ?_
   ·
    intro a w' hr hs
    have h4 := hs.ov 4 (.int .i64 a4)
    go_simp
   refine zaF (.bool true) Grows.refl rfl (fun a w hr hs => zax (g := 3) (t := 24) rfl rfl (hs.g 2)) ?_ ?_
   ·
    intro a w' hr hs
    have h25 := hs.gv 1 rfl rfl
    have h26 := hs.gv 0 rfl rfl
    go_simp
   refine rgv (.bool true) ?_ ?_
   ·
    intro a w' hr hs
    have h24 := hs.gv 3 rfl rfl
    have h27 := hs.gv 0 rfl rfl
    go_simp
   refine rgv (.bool true) ?_ ?_
   ·
    intro a w' hr hs
    have h28 := hs.gv 0 rfl rfl
    go_simp
   intro vs w20_ hr hE
   have e8 : vs 8 = .bool true := hE _ (zbs 0 rfl)
   have hg : Grows w16_s w20_ := hr
   clear hE hr
   rw [show List.range 9 = [0, 1, 2, 3, 4, 5, 6, 7, 8] from rfl]
   simp only [ps, ga, pa, e8]
   clear e8
   have hT : Grows w20_ w20_ := Grows.refl _
   replace hg : Grows w16_s w20_ := hg.trans hT
   clear hT
   refine zaX ?_
   simp only [Exit.then]
   replace HCu17 := cb HCu17 hg
   replace HRu17 := rb HRu17 hg
   replace HXb1 := ab HXb1 hg
   replace HXb2 := ab HXb2 hg
   replace HXb12 := ab HXb12 hg
   replace HB := hbm HB hg
   clear hg
   replace HC0_4 := cb PHC0_4 HB.out
   replace HC3_4 := cb PHC3_4 HB.out
   obtain rfl := Option.some.inj h
   go_wp2_with fail
   go_ret
   exact ⟨rfl, HB.out⟩
  ·
   rw [if_neg q19] at h
   have q19a : (t10 == a4) = false := by simpa using q19
   have q19b : decide (t10 = a4) = false := by simpa using q19
   clear q19
   refine rgt (N := 29) 9 ?_
   rw [show List.range 9 = [0, 1, 2, 3, 4, 5, 6, 7, 8] from rfl]
   refine rgv (.agg #[.int .i64 t5, .int .i64 t6, .int .u64 t7, .string t8, .slice Au17 t9.length cu17]) ?_ ?_
   ·
    intro a w' hr hs
    have h11 := hs.ov 11 (.pointer (some ⟨b12_, 0, none⟩))
    have x := hr.at HXb12.out
    have x0 := zad x 0
    have x1 := zad x 1
    have x2 := zad x 2
    have x3 := zad x 3
    have x4 := zad x 4
    simp only [ga] at x0 x1 x2 x3 x4
    go_simp
   refine rgv (.agg #[.int .i64 a3_0, .int .i64 a3_1, .int .u64 a3_2, .string a3_3, .slice A3_4 l3_4.length c3_4]) ?_ ?_
   ·
    intro a w' hr hs
    have h8 := hs.ov 8 (.pointer (some ⟨b2_, 0, none⟩))
    have x := hr.at HXb2.out
    have x0 := zad x 0
    have x1 := zad x 1
    have x2 := zad x 2
    have x3 := zad x 3
    have x4 := zad x 4
    simp only [ga] at x0 x1 x2 x3 x4
    go_simp
   refine rgc (fun v _ => v = .bool true) Try.func14 ?_ ?_
   ·
    intro a w' hr hs
    have h21 := hs.gv 1 rfl rfl
    have h22 := hs.gv 0 rfl rfl
    rw [show (#[Operand.tmp 21, Operand.tmp 22] : Array Operand).map a.eval = #[.agg #[.int .i64 t5, .int .i64 t6, .int .u64 t7, .string t8, .slice Au17 t9.length cu17], .agg #[.int .i64 a3_0, .int .i64 a3_1, .int .u64 a3_2, .string a3_3, .slice A3_4 l3_4.length c3_4]] by simp [Act.eval, h21, h22]]
    refine (zaj.calls k t5 t6 t7 t8 Au17 cu17 t9 a3_0 a3_1 a3_2 a3_3 A3_4 c3_4 l3_4 true _ (Kd.zat HCu17.out hr) hcu17 (Kd.zat HC3_4.out hr) hc3_4 F14.out).mono ?_
    rintro e w3 ⟨rfl, hb⟩
    exact ⟨_, rfl, hb, rfl⟩
   refine rgv (.bool true) ?_ ?_
   ·
    intro a w' hr hs
    have h23 := hs.gv 0 rfl rfl
    go_simp
   refine zaF (.int .i64 t10) Grows.refl rfl (fun a w hr hs => zax (g := 3) (t := 24) rfl rfl (hs.g 0)) ?_ ?_
   ·
    intro a w' hr hs
    have h12 := hs.ov 12 (.int .i64 t10)
    go_simp
   refine zaF (.int .i64 a4) Grows.refl rfl (fun a w hr hs => zax (g := 3) (t := 24) rfl rfl (hs.g 1)) ?_ ?_
   ·
    intro a w' hr hs
    have h4 := hs.ov 4 (.int .i64 a4)
    go_simp
   refine zaF (.bool false) Grows.refl rfl (fun a w hr hs => zax (g := 3) (t := 24) rfl rfl (hs.g 2)) ?_ ?_
   ·
    intro a w' hr hs
    have h25 := hs.gv 1 rfl rfl
    have h26 := hs.gv 0 rfl rfl
    go_simp
   refine rgv (.bool false) ?_ ?_
   ·
    intro a w' hr hs
    have h24 := hs.gv 3 rfl rfl
    have h27 := hs.gv 0 rfl rfl
    go_simp
   refine rgv (.bool false) ?_ ?_
   ·
    intro a w' hr hs
    have h28 := hs.gv 0 rfl rfl
    go_simp
   intro vs w21_ hr hE
   have e8 : vs 8 = .bool false := hE _ (zbs 0 rfl)
   have hg : Grows w16_s w21_ := hr
   clear hE hr
   rw [show List.range 9 = [0, 1, 2, 3, 4, 5, 6, 7, 8] from rfl]
   simp only [ps, ga, pa, e8]
   clear e8
   have hT : Grows w21_ w21_ := Grows.refl _
   replace hg : Grows w16_s w21_ := hg.trans hT
   clear hT
   refine zaX ?_
   simp only [Exit.then]
   replace HCu17 := cb HCu17 hg
   replace HRu17 := rb HRu17 hg
   replace HXb1 := ab HXb1 hg
   replace HXb2 := ab HXb2 hg
   replace HXb12 := ab HXb12 hg
   replace HB := hbm HB hg
   clear hg
   replace HC0_4 := cb PHC0_4 HB.out
   replace HC3_4 := cb PHC3_4 HB.out
   obtain rfl := Option.some.inj h
   go_wp2_with fail
   go_ret
   exact ⟨rfl, HB.out⟩
 ·
  rw [if_neg q18] at h
  obtain rfl : t13 = false := by simpa using q18
  refine rgt (N := 29) 9 ?_
  rw [show List.range 9 = [0, 1, 2, 3, 4, 5, 6, 7, 8] from rfl]
  refine rgv (.agg #[.int .i64 t5, .int .i64 t6, .int .u64 t7, .string t8, .slice Au17 t9.length cu17]) ?_ ?_
  ·
   intro a w' hr hs
   have h11 := hs.ov 11 (.pointer (some ⟨b12_, 0, none⟩))
   have x := hr.at HXb12.out
   have x0 := zad x 0
   have x1 := zad x 1
   have x2 := zad x 2
   have x3 := zad x 3
   have x4 := zad x 4
   simp only [ga] at x0 x1 x2 x3 x4
   go_simp
  refine rgv (.agg #[.int .i64 a3_0, .int .i64 a3_1, .int .u64 a3_2, .string a3_3, .slice A3_4 l3_4.length c3_4]) ?_ ?_
  ·
   intro a w' hr hs
   have h8 := hs.ov 8 (.pointer (some ⟨b2_, 0, none⟩))
   have x := hr.at HXb2.out
   have x0 := zad x 0
   have x1 := zad x 1
   have x2 := zad x 2
   have x3 := zad x 3
   have x4 := zad x 4
   simp only [ga] at x0 x1 x2 x3 x4
   go_simp
  refine rgc (fun v _ => v = .bool false) Try.func14 ?_ ?_
  ·
   intro a w' hr hs
   have h21 := hs.gv 1 rfl rfl
   have h22 := hs.gv 0 rfl rfl
   rw [show (#[Operand.tmp 21, Operand.tmp 22] : Array Operand).map a.eval = #[.agg #[.int .i64 t5, .int .i64 t6, .int .u64 t7, .string t8, .slice Au17 t9.length cu17], .agg #[.int .i64 a3_0, .int .i64 a3_1, .int .u64 a3_2, .string a3_3, .slice A3_4 l3_4.length c3_4]] by simp [Act.eval, h21, h22]]
   refine (zaj.calls k t5 t6 t7 t8 Au17 cu17 t9 a3_0 a3_1 a3_2 a3_3 A3_4 c3_4 l3_4 false _ (Kd.zat HCu17.out hr) hcu17 (Kd.zat HC3_4.out hr) hc3_4 F14.out).mono ?_
   rintro e w3 ⟨rfl, hb⟩
   exact ⟨_, rfl, hb, rfl⟩
  refine rgv (.bool false) ?_ ?_
  ·
   intro a w' hr hs
   have h23 := hs.gv 0 rfl rfl
   go_simp
  refine zbL rfl (fun a w hr hs => (zbl (g := 3) (t := 24) (b' := false) rfl rfl (hs.g 0)).trans rfl) ?_
  refine zbL rfl (fun a w hr hs => (zbl (g := 3) (t := 24) (b' := false) rfl rfl (hs.g 1)).trans rfl) ?_
  refine zbL rfl (fun a w hr hs => (zbl (g := 3) (t := 24) (b' := false) rfl rfl (hs.g 2)).trans rfl) ?_
  refine rgv (.bool false) ?_ ?_
  ·
   intro a w' hr hs
   have h24 := hs.gv 3 rfl rfl
   go_simp
  refine rgv (.bool false) ?_ ?_
  ·
   intro a w' hr hs
   have h28 := hs.gv 0 rfl rfl
   go_simp
  intro vs w22_ hr hE
  have e8 : vs 8 = .bool false := hE _ (zbs 0 rfl)
  have hg : Grows w16_s w22_ := hr
  clear hE hr
  rw [show List.range 9 = [0, 1, 2, 3, 4, 5, 6, 7, 8] from rfl]
  simp only [ps, ga, pa, e8]
  clear e8
  have hT : Grows w22_ w22_ := Grows.refl _
  replace hg : Grows w16_s w22_ := hg.trans hT
  clear hT
  refine zaX ?_
  simp only [Exit.then]
  replace HCu17 := cb HCu17 hg
  replace HRu17 := rb HRu17 hg
  replace HXb1 := ab HXb1 hg
  replace HXb2 := ab HXb2 hg
  replace HXb12 := ab HXb12 hg
  replace HB := hbm HB hg
  clear hg
  replace HC0_4 := cb PHC0_4 HB.out
  replace HC3_4 := cb PHC3_4 HB.out
  obtain rfl := Option.some.inj h
  go_wp2_with fail
  go_ret
  exact ⟨rfl, HB.out⟩
def zaQ.f (k : Nat)  : Option Bool := (zbd.f).bind fun bF3 => (zbk.f k bF3 7 1 0 (⟨#[67]⟩ : ByteArray) ([(⟨false, (⟨#[67]⟩ : ByteArray), (-1)⟩ : S35), (⟨true, (⟨#[67]⟩ : ByteArray), 1⟩ : S35)] : List (S35)) (⟨#[109]⟩ : ByteArray) 7 1 0 (⟨#[69]⟩ : ByteArray) ([] : List (S35)) false).bind fun bF10 => (zbd.f).bind fun bF13 => (zaJ.f).bind fun bF19 => (zbe.f k bF13 7 1 0 (⟨#[67]⟩ : ByteArray) ([(⟨false, (⟨#[67]⟩ : ByteArray), (-1)⟩ : S35), (⟨true, (⟨#[67]⟩ : ByteArray), 1⟩ : S35)] : List (S35)) (⟨#[109]⟩ : ByteArray) 0 bF19.1 bF19.2.1 bF19.2.2.1 bF19.2.2.2.1 bF19.2.2.2.2 false).bind fun bF26 => (zaP.f k 7 1 0 (⟨#[69]⟩ : ByteArray) ([] : List (S35)) (⟨#[69]⟩ : ByteArray) (⟨#[68]⟩ : ByteArray) 2 7 1 0 (⟨#[69]⟩ : ByteArray) ([(⟨false, (⟨#[69]⟩ : ByteArray), (-2)⟩ : S35), (⟨true, (⟨#[68]⟩ : ByteArray), 2⟩ : S35)] : List (S35)) 0).bind fun bF29 => (if bF29 = true then (zaJ.f).bind fun bF35 => (zaP.f k bF35.1 bF35.2.1 bF35.2.2.1 bF35.2.2.2.1 bF35.2.2.2.2 (⟨#[63]⟩ : ByteArray) (⟨#[115, 116, 114]⟩ : ByteArray) 1 0 0 0 (⟨#[]⟩ : ByteArray) ([] : List (S35)) 1).bind fun bF37 => (if bF37 = true then (zaS.f k 7 1 0 (⟨#[69]⟩ : ByteArray) ([(⟨false, (⟨#[68]⟩ : ByteArray), 1⟩ : S35)] : List (S35)) (⟨#[69]⟩ : ByteArray) 5 0 0 0 (⟨#[]⟩ : ByteArray) ([] : List (S35)) 5).bind fun bF39 => (if bF39 = true then (if (bF10.2.2.2.2.2 == 0) = true then (zaj.f k bF10.1 bF10.2.1 bF10.2.2.1 bF10.2.2.2.1 bF10.2.2.2.2.1 7 1 0 (⟨#[69]⟩ : ByteArray) ([(⟨false, (⟨#[68]⟩ : ByteArray), (-1)⟩ : S35), (⟨true, (⟨#[68]⟩ : ByteArray), 1⟩ : S35)] : List (S35))).bind fun bF41 => (if bF41 = true then (if (bF26.2.2.2.2.2 == (-1)) = true then (zaj.f k bF26.1 bF26.2.1 bF26.2.2.1 bF26.2.2.2.1 bF26.2.2.2.2.1 0 0 0 (⟨#[]⟩ : ByteArray) ([] : List (S35))).bind fun bF43 => some (bF43) else none) else none) else none) else none) else none) else none)
theorem zaQ.mono : ∀  k, LeO (zaQ.f k ) (zaQ.f (k + 1) ) := by
 intro  k
 unfold zaQ.f
 repeat' first
  | (with_reducible exact zaj.mono _ _ _ _ _ _ _ _ _ _ _)
  | (with_reducible exact zaP.mono _ _ _ _ _ _ _ _ _ _ _ _ _ _ _)
  | (with_reducible exact zaS.mono _ _ _ _ _ _ _ _ _ _ _ _ _ _)
  | (with_reducible exact zbe.mono _ _ _ _ _ _ _ _ _ _ _ _ _ _ _)
  | (with_reducible exact zbk.mono _ _ _ _ _ _ _ _ _ _ _ _ _ _)
  | (with_reducible exact LeO.refl _)
  | (with_reducible exact LeO.none _)
  | (with_reducible refine LeO.ite ?_ ?_)
  | (with_reducible refine LeO.bind ?_ (fun _ => ?_))
open Go.Proofs.YtinkbljjpafadaaRF in
theorem zaQ.zde (a : ByteArray) (A : Option Addr) (n c : Nat) (w : World) : Calls Try.prog 9 #[.string a, .slice A n c] w fun e w' => e = .returned (.agg #[.int .i64 7, .int .i64 1, .int .u64 0, .string a, .slice A n c]) ∧ Below w.heap.size w w' := by
 have hu27 := Try.underlying27
 go_enter Try.func9, Try.ntmps9
 go_wp2_with fail
 refine bodyPost_ret (results_cell_row rfl _ _ w.heap.size 27 #[.int .i64 7, .int .i64 1, .int .u64 0, .string a, .slice A n c] (0, 0) _ rfl (at_new _ _ rfl) hu27 rfl k9) rfl ?_
 exact ⟨rfl, (Below.refl _ _).alloc (Nat.le_refl _) _⟩
open Go.Proofs.YtinkbljjpafadaaRF Go.Proofs.YtinkbljjpafadaaRG in
theorem zaQ.calls (k : Nat)  (r : Bool) (w : World)  (h : zaQ.f k  = some r) :
  Calls Try.prog 18 #[] w fun e w' => e = .returned (.bool r) ∧ Below w.heap.size w w' := by
 unfold zaQ.f at h
 have hu27 := Try.underlying27
 have hu33 := Try.underlying33
 have hu35 := Try.underlying35
 have HB := zaa.mk (Below.refl w.heap.size w)
 go_enter Try.func18, Try.ntmps18
 refine wp_seq ?_
 refine rgt (N := 63) 1 ?_
 rw [show List.range 1 = [0] from rfl]
 refine rgv (.bool false) ?_ ?_
 ·
  intro a w' hr hs
  go_simp
 intro vs w44_ hr hE
 have e0 : vs 0 = .bool false := hE _ (zbs 0 rfl)
 have hg : Grows w w44_ := hr
 clear hE hr
 rw [show List.range 1 = [0] from rfl]
 simp only [ps, ga, pa, e0]
 clear e0
 have hT : Grows w44_ w44_ := Grows.refl _
 replace hg : Grows w w44_ := hg.trans hT
 clear hT
 refine zaX ?_
 simp only [Exit.then]
 replace HB := hbm HB hg
 clear hg
 refine wp_seq ?_
 refine rgt (N := 63) 4 ?_
 rw [show List.range 4 = [0, 1, 2, 3] from rfl]
 refine rgc (fun v _ => v = .agg #[.bool false, .string (⟨#[67]⟩ : ByteArray), .int .i64 (-1)]) Try.func10 ?_ ?_
 ·
  intro a w' hr hs
  rw [show (#[Operand.const (.string (⟨#[67]⟩ : ByteArray)), Operand.const (.int .i64 (-1))] : Array Operand).map a.eval = #[.string (⟨#[67]⟩ : ByteArray), .int .i64 (-1)] by simp [Act.eval]]
  refine (zbF.calls (⟨#[67]⟩ : ByteArray) (-1) false (⟨#[67]⟩ : ByteArray) (-1) _ rfl).mono ?_
  rintro e w3 ⟨rfl, hb⟩
  exact ⟨_, rfl, hb, rfl⟩
 refine rgc (fun v _ => v = .agg #[.bool true, .string (⟨#[67]⟩ : ByteArray), .int .i64 1]) Try.func17 ?_ ?_
 ·
  intro a w' hr hs
  rw [show (#[Operand.const (.string (⟨#[67]⟩ : ByteArray)), Operand.const (.int .i64 1)] : Array Operand).map a.eval = #[.string (⟨#[67]⟩ : ByteArray), .int .i64 1] by simp [Act.eval]]
  refine (zbO.calls (⟨#[67]⟩ : ByteArray) 1 true (⟨#[67]⟩ : ByteArray) 1 _ rfl).mono ?_
  rintro e w3 ⟨rfl, hb⟩
  exact ⟨_, rfl, hb, rfl⟩
 refine zdc k35 35 ([(⟨false, (⟨#[67]⟩ : ByteArray), (-1)⟩ : S35), (⟨true, (⟨#[67]⟩ : ByteArray), 1⟩ : S35)] : List (S35)) rfl rfl (fun _ _ _ _ => zae rfl) s9 ?_ ?_
 ·
  intro a w' hr hs
  have h6 := hs.gv 1 rfl rfl
  have h7 := hs.gv 0 rfl rfl
  refine ⟨[.bool false, .string (⟨#[67]⟩ : ByteArray), .int .i64 (-1), .bool true, .string (⟨#[67]⟩ : ByteArray), .int .i64 1], by go_simp <;> rfl, ?_⟩
  exact Reps.c3 (show Kd.M k35 _ _ _ (⟨false, (⟨#[67]⟩ : ByteArray), (-1)⟩ : S35) [.bool false, .string (⟨#[67]⟩ : ByteArray), .int .i64 (-1)] from zce _ _ _ _) (Reps.c3 (show Kd.M k35 _ _ _ (⟨true, (⟨#[67]⟩ : ByteArray), 1⟩ : S35) [.bool true, .string (⟨#[67]⟩ : ByteArray), .int .i64 1] from zce _ _ _ _) (Reps.none _ _))
 refine rgc (OneR k35 35 ([(⟨false, (⟨#[67]⟩ : ByteArray), (-1)⟩ : S35), (⟨true, (⟨#[67]⟩ : ByteArray), 1⟩ : S35)] : List (S35)) (vA 7 1 0 (⟨#[67]⟩ : ByteArray))) Try.func9 ?_ ?_
 ·
  intro a w' hr hs
  have g8 : OneR k35 35 ([(⟨false, (⟨#[67]⟩ : ByteArray), (-1)⟩ : S35), (⟨true, (⟨#[67]⟩ : ByteArray), 1⟩ : S35)] : List (S35)) (fun u => u) (a.tmps[8]?.getD undef) w' := hs.g 0
  obtain ⟨A8, c8, h8, hc8, hC8, hR8⟩ := g8.reads
  replace h8 : a.tmps[8]?.getD undef = .slice A8 ([(⟨false, (⟨#[67]⟩ : ByteArray), (-1)⟩ : S35), (⟨true, (⟨#[67]⟩ : ByteArray), 1⟩ : S35)] : List (S35)).length c8 := h8
  rw [show (#[Operand.const (.string (⟨#[67]⟩ : ByteArray)), Operand.tmp 8] : Array Operand).map a.eval = #[.string (⟨#[67]⟩ : ByteArray), .slice A8 ([(⟨false, (⟨#[67]⟩ : ByteArray), (-1)⟩ : S35), (⟨true, (⟨#[67]⟩ : ByteArray), 1⟩ : S35)] : List (S35)).length c8] by simp [Act.eval, h8]]
  refine (zaQ.zde _ _ _ _ _).mono ?_
  rintro e w3 ⟨rfl, hb⟩
  exact ⟨_, rfl, hb, _, rfl, Kd.zbC hR8 hb⟩
 intro vs w45_ hr hE
 have g_ : OneR k35 35 ([(⟨false, (⟨#[67]⟩ : ByteArray), (-1)⟩ : S35), (⟨true, (⟨#[67]⟩ : ByteArray), 1⟩ : S35)] : List (S35)) (vA 7 1 0 (⟨#[67]⟩ : ByteArray)) (vs 3) w45_ := hE _ (zbs 0 rfl)
 obtain ⟨Au46, cu46, e3, hcu46, hCu46, hRu46⟩ := g_.reads
 clear g_
 replace e3 : vs 3 = .agg #[.int .i64 7, .int .i64 1, .int .u64 0, .string (⟨#[67]⟩ : ByteArray), .slice Au46 ([(⟨false, (⟨#[67]⟩ : ByteArray), (-1)⟩ : S35), (⟨true, (⟨#[67]⟩ : ByteArray), 1⟩ : S35)] : List (S35)).length cu46] := e3
 have HCu46 := zaa.mk hCu46
 clear hCu46
 have HRu46 := zaa.mk hRu46
 clear hRu46
 have hg : Grows w44_ w45_ := hr
 clear hE hr
 rw [show List.range 4 = [0, 1, 2, 3] from rfl]
 simp only [ps, ga, pa, e3]
 clear e3
 have hT : Grows w45_ w45_ := Grows.refl _
 obtain ⟨w45_a, hw45_a⟩ : ∃ W, W = w45_.alloc (.cells #[.int .i64 0, .int .i64 0, .int .u64 0, .string (⟨#[]⟩ : ByteArray), .slice none 0 0] 27) := ⟨_, rfl⟩
 obtain ⟨b1_, hb1_⟩ : ∃ n, n = w45_.heap.size := ⟨_, rfl⟩
 refine zbv (i := 4) (r := [5]) (w' := w45_a) 1 (.pointer (some ⟨b1_, 0, none⟩)) rfl rfl (zae rfl) (by rw [hw45_a, hb1_]; go_simp) ?_
 simp only [pa]
 have HXb1 : w45_a.heap[b1_]? = some (.cells #[.int .i64 0, .int .i64 0, .int .u64 0, .string (⟨#[]⟩ : ByteArray), .slice none 0 0] 27 (0, 0)) := by rw [hw45_a, hb1_]; exact at_new _ _ rfl
 replace HXb1 := zaa.mk HXb1
 have hlb1 : w45_.heap.size ≤ b1_ := by rw [hb1_]; exact hT.size
 replace hT : Grows w45_ w45_a := by rw [hw45_a]; exact hT.trans (Grows.alloc _ _)
 clear hw45_a hb1_
 have hwb1 : w.heap.size ≤ b1_ := Nat.le_trans (Nat.le_trans HB.out.size hg.size) hlb1
 have z0 := zad HXb1.out 0
 have f0 := free_at HXb1.out 0
 have z1 := zad HXb1.out 1
 have f1 := free_at HXb1.out 1
 have z2 := zad HXb1.out 2
 have f2 := free_at HXb1.out 2
 have z3 := zad HXb1.out 3
 have f3 := free_at HXb1.out 3
 have z4 := zad HXb1.out 4
 have f4 := free_at HXb1.out 4
 simp only [ga] at z0 z1 z2 z3 z4
 obtain ⟨w45_as, hw45_as⟩ : ∃ W, W = (((((w45_a.setCell ⟨b1_, 0, none⟩ (.int .i64 7)).setCell ⟨b1_, 1, none⟩ (.int .i64 1)).setCell ⟨b1_, 2, none⟩ (.int .u64 0)).setCell ⟨b1_, 3, none⟩ (.string (⟨#[67]⟩ : ByteArray))).setCell ⟨b1_, 4, none⟩ (.slice Au46 ([(⟨false, (⟨#[67]⟩ : ByteArray), (-1)⟩ : S35), (⟨true, (⟨#[67]⟩ : ByteArray), 1⟩ : S35)] : List (S35)).length cu46)) := ⟨_, rfl⟩
 refine zcT (i := 5) (r := []) (w' := w45_as) rfl rfl (zae rfl) (by rw [hw45_as]; go_simp) ?_
 clear z0 z1 z2 z3 z4 f0 f1 f2 f3 f4
 have hX_ : w45_as.heap[b1_]? = some (.cells #[.int .i64 7, .int .i64 1, .int .u64 0, .string (⟨#[67]⟩ : ByteArray), .slice Au46 ([(⟨false, (⟨#[67]⟩ : ByteArray), (-1)⟩ : S35), (⟨true, (⟨#[67]⟩ : ByteArray), 1⟩ : S35)] : List (S35)).length cu46] 27 (0, 0)) := by rw [hw45_as]; exact (zaf (zaf (zaf (zaf (zaf HXb1.out 0 (.int .i64 7) rfl) 1 (.int .i64 1) rfl) 2 (.int .u64 0) rfl) 3 (.string (⟨#[67]⟩ : ByteArray)) rfl) 4 (.slice Au46 ([(⟨false, (⟨#[67]⟩ : ByteArray), (-1)⟩ : S35), (⟨true, (⟨#[67]⟩ : ByteArray), 1⟩ : S35)] : List (S35)).length cu46) rfl)
 replace HXb1 := zaa.mk hX_
 clear hX_
 replace hT : Grows w45_ w45_as := by rw [hw45_as]; exact (setB (setB (setB (setB (setB hT hlb1 (.int .i64 7)) hlb1 (.int .i64 1)) hlb1 (.int .u64 0)) hlb1 (.string (⟨#[67]⟩ : ByteArray))) hlb1 (.slice Au46 ([(⟨false, (⟨#[67]⟩ : ByteArray), (-1)⟩ : S35), (⟨true, (⟨#[67]⟩ : ByteArray), 1⟩ : S35)] : List (S35)).length cu46))
 clear hw45_as
 replace HCu46 := cb HCu46 hT
 replace HRu46 := rb HRu46 hT
 replace hg : Grows w44_ w45_as := hg.trans hT
 clear hT
 refine zaX ?_
 simp only [Exit.then]
 replace HB := hbm HB hg
 clear hg
 refine wp_seq ?_
 replace h := Option.bind_eq_some_iff.1 h
 obtain ⟨t2, F3, h⟩ := h
 try dsimp only at h
 replace F3 := zaa.mk F3
 replace h := Option.bind_eq_some_iff.1 h
 obtain ⟨⟨t4, t5, t6, t7, t8, t9⟩, F10, h⟩ := h
 try dsimp only at h
 replace F10 := zaa.mk F10
 refine zcB (N := 63) 8 [6] Grows k9 k9 rfl Grows.refl Grows.trans rfl rfl rfl rfl k9 ?_
 rw [show List.range 8 = [0, 1, 2, 3, 4, 5, 6, 7] from rfl]
 refine zbW (OneC k64 t2 (fun u => u)) OneC.grows rfl rfl Try.func6 k9 rfl (fun _ _ _ _ => zae rfl) ?_ ?_
 ·
  intro a w' hr hs
  rw [show (#[] : Array Operand).map a.eval = #[] by simp]
  refine (zbd.calls t2 _ F3.out).mono ?_
  rintro e w3 ⟨v, rfl, hN, hb⟩
  obtain ⟨A9, c9, rfl, hc9, hC9⟩ := Kd.zey hN
  exact ⟨_, rfl, hb, A9, c9, rfl, hc9, hC9⟩
 refine rglv (.agg #[.int .i64 7, .int .i64 1, .int .u64 0, .string (⟨#[67]⟩ : ByteArray), .slice Au46 ([(⟨false, (⟨#[67]⟩ : ByteArray), (-1)⟩ : S35), (⟨true, (⟨#[67]⟩ : ByteArray), 1⟩ : S35)] : List (S35)).length cu46]) ?_ ?_
 ·
  intro a w' hr hs
  have h1 := hs.ov 1 (.pointer (some ⟨b1_, 0, none⟩))
  have x := hr.at (zcd HXb1.out)
  have x0 := zad x 0
  have x1 := zad x 1
  have x2 := zad x 2
  have x3 := zad x 3
  have x4 := zad x 4
  simp only [ga] at x0 x1 x2 x3 x4
  go_simp
 refine zbW (fun v _ => v = .agg #[.int .i64 7, .int .i64 1, .int .u64 0, .string (⟨#[69]⟩ : ByteArray), .slice none 0 0]) (fun _ _ _ _ h => h) rfl rfl Try.func9 k9 rfl (fun _ _ _ _ => zae rfl) ?_ ?_
 ·
  intro a w' hr hs
  rw [show (#[Operand.const (.string (⟨#[69]⟩ : ByteArray)), Operand.const (.slice none 0 0)] : Array Operand).map a.eval = #[.string (⟨#[69]⟩ : ByteArray), .slice none 0 0] by simp [Act.eval]]
  refine (zaQ.zde _ _ _ _ _).mono ?_
  rintro e w3 ⟨rfl, hb⟩
  exact ⟨_, rfl, hb, rfl⟩
 refine zbW (OneR k35 35 t8 (vT t4 t5 t6 t7 t9)) OneR.grows rfl rfl Try.func23 k9 rfl (fun _ _ _ _ => zae rfl) ?_ ?_
 ·
  intro a w' hr hs
  have g11 : OneC k64 t2 (fun u => u) (a.tmps[11]?.getD undef) w' := hs.g 2
  obtain ⟨A11, c11, h11, hc11, hC11⟩ := g11.reads
  replace h11 : a.tmps[11]?.getD undef = .slice A11 t2.length c11 := h11
  have h12 := hs.gv 1 rfl rfl
  have h13 := hs.gv 0 rfl rfl
  rw [show (#[Operand.tmp 11, Operand.tmp 12, Operand.const (.string (⟨#[109]⟩ : ByteArray)), Operand.tmp 13, Operand.const (.bool false)] : Array Operand).map a.eval = #[.slice A11 t2.length c11, .agg #[.int .i64 7, .int .i64 1, .int .u64 0, .string (⟨#[67]⟩ : ByteArray), .slice Au46 ([(⟨false, (⟨#[67]⟩ : ByteArray), (-1)⟩ : S35), (⟨true, (⟨#[67]⟩ : ByteArray), 1⟩ : S35)] : List (S35)).length cu46], .string (⟨#[109]⟩ : ByteArray), .agg #[.int .i64 7, .int .i64 1, .int .u64 0, .string (⟨#[69]⟩ : ByteArray), .slice none 0 0], .bool false] by simp [Act.eval, h11, h12, h13]]
  refine (zbk.calls k A11 c11 t2 7 1 0 (⟨#[67]⟩ : ByteArray) Au46 cu46 ([(⟨false, (⟨#[67]⟩ : ByteArray), (-1)⟩ : S35), (⟨true, (⟨#[67]⟩ : ByteArray), 1⟩ : S35)] : List (S35)) (⟨#[109]⟩ : ByteArray) 7 1 0 (⟨#[69]⟩ : ByteArray) none 0 ([] : List (S35)) false t4 t5 t6 t7 t8 t9 _ hC11 hc11 (Kd.zat (Kd.zbu HCu46.out) hr) hcu46 (Kd.C_nil _ _) (Nat.le_refl _) F10.out).mono ?_
  rintro e w3 ⟨v, rfl, hR, hb⟩
  exact ⟨_, rfl, hb, OneR.of hR⟩
 refine zcc (OneR k35 35 t8 (vT t4 t5 t6 t7 t9)) OneR.grows Grows.refl rfl (fun _ _ _ _ => zae rfl) ?_ ?_
 ·
  intro a w' hr hs
  obtain ⟨A14, c14, h14, hc14, hC14, hR14⟩ := hs.rd 0 rfl rfl
  simp only [vT] at h14
  exact ⟨.tuple #[.agg #[.int .i64 t4, .int .i64 t5, .int .u64 t6, .string t7, .slice A14 t8.length c14], .int .i64 t9], by go_simp, _, rfl, hR14⟩
 refine zcc (OneR k35 35 t8 (vA t4 t5 t6 t7)) OneR.grows Grows.refl rfl (fun _ _ _ _ => zae rfl) ?_ ?_
 ·
  intro a w' hr hs
  obtain ⟨A10, c10, h10, hc10, hC10, hR10⟩ := hs.rd 0 rfl rfl
  simp only [vT] at h10
  exact ⟨.agg #[.int .i64 t4, .int .i64 t5, .int .u64 t6, .string t7, .slice A10 t8.length c10], by go_simp, _, rfl, hR10⟩
 refine zdl (.int .i64 t9) Grows.refl rfl (fun _ _ _ _ => zae rfl) ?_ ?_
 ·
  intro a w' hr hs w3
  obtain ⟨A10, c10, h10, hc10, hC10, hR10⟩ := hs.rd 1 rfl rfl
  simp only [vT] at h10
  go_simp
 refine zdv (Boxed #[.int .i64 0, .int .i64 0, .int .u64 0, .string (⟨#[]⟩ : ByteArray), .slice none 0 0] 27 w45_as.heap.size) Boxed.grows rfl (fun _ _ _ _ => zae rfl) ?_ ?_
 ·
  intro a w' hr hs
  exact ⟨_, _, by go_simp, Grows.alloc _ _, Boxed.new hr.size⟩
 intro vs w47_ hr hE
 have g_ : OneR k35 35 t8 (vA t4 t5 t6 t7) (vs 5) w47_ := hE _ (zbs 2 rfl)
 obtain ⟨Au48, cu48, e5, hcu48, hCu48, hRu48⟩ := g_.reads
 clear g_
 replace e5 : vs 5 = .agg #[.int .i64 t4, .int .i64 t5, .int .u64 t6, .string t7, .slice Au48 t8.length cu48] := e5
 have HCu48 := zaa.mk hCu48
 clear hCu48
 have HRu48 := zaa.mk hRu48
 clear hRu48
 have e6 : vs 6 = .int .i64 t9 := hE _ (zbs 1 rfl)
 obtain ⟨b11_, e7, HXb11, hlb11⟩ := hE _ (zbs 0 rfl)
 replace HXb11 := zaa.mk HXb11
 have hwb11 : w.heap.size ≤ b11_ := Nat.le_trans HB.out.size hlb11
 have hneb1b11 : b1_ ≠ b11_ := by have := zai HXb1.out; omega
 have hg : Grows w45_as w47_ := Below.trans (Below.refl w45_as.heap.size w45_as).drew hr
 clear hE hr
 rw [show List.range 8 = [0, 1, 2, 3, 4, 5, 6, 7] from rfl]
 simp only [ps, ga, pa, e5, e6, e7]
 clear e5 e6 e7
 have z0 := zad HXb11.out 0
 have f0 := free_at HXb11.out 0
 have z1 := zad HXb11.out 1
 have f1 := free_at HXb11.out 1
 have z2 := zad HXb11.out 2
 have f2 := free_at HXb11.out 2
 have z3 := zad HXb11.out 3
 have f3 := free_at HXb11.out 3
 have z4 := zad HXb11.out 4
 have f4 := free_at HXb11.out 4
 simp only [ga] at z0 z1 z2 z3 z4
 obtain ⟨w47_s, hw47_s⟩ : ∃ W, W = (((((w47_.setCell ⟨b11_, 0, none⟩ (.int .i64 t4)).setCell ⟨b11_, 1, none⟩ (.int .i64 t5)).setCell ⟨b11_, 2, none⟩ (.int .u64 t6)).setCell ⟨b11_, 3, none⟩ (.string t7)).setCell ⟨b11_, 4, none⟩ (.slice Au48 t8.length cu48)) := ⟨_, rfl⟩
 refine ⟨_, w47_s, rfl, by rw [hw47_s]; go_simp, ?_⟩
 clear z0 z1 z2 z3 z4 f0 f1 f2 f3 f4
 have hR_ := (Kd.R_set (Kd.R_set (Kd.R_set (Kd.R_set (Kd.R_set HRu48.out HXb11.out d9 0 (.int .i64 t4)) (zaf HXb11.out 0 (.int .i64 t4) rfl) d9 1 (.int .i64 t5)) (zaf (zaf HXb11.out 0 (.int .i64 t4) rfl) 1 (.int .i64 t5) rfl) d9 2 (.int .u64 t6)) (zaf (zaf (zaf HXb11.out 0 (.int .i64 t4) rfl) 1 (.int .i64 t5) rfl) 2 (.int .u64 t6) rfl) d9 3 (.string t7)) (zaf (zaf (zaf (zaf HXb11.out 0 (.int .i64 t4) rfl) 1 (.int .i64 t5) rfl) 2 (.int .u64 t6) rfl) 3 (.string t7) rfl) d9 4 (.slice Au48 t8.length cu48))
 rw [← hw47_s] at hR_
 have HCu48 := zaa.mk (Kd.zbn hR_).2.2
 replace HRu48 := zaa.mk hR_
 clear hR_
 have hX_ : w47_s.heap[b11_]? = some (.cells #[.int .i64 t4, .int .i64 t5, .int .u64 t6, .string t7, .slice Au48 t8.length cu48] 27 (0, 0)) := by rw [hw47_s]; exact (zaf (zaf (zaf (zaf (zaf HXb11.out 0 (.int .i64 t4) rfl) 1 (.int .i64 t5) rfl) 2 (.int .u64 t6) rfl) 3 (.string t7) rfl) 4 (.slice Au48 t8.length cu48) rfl)
 replace HXb11 := zaa.mk hX_
 clear hX_
 replace hg : Grows w45_as w47_s := by rw [hw47_s]; exact (setB (setB (setB (setB (setB hg hlb11 (.int .i64 t4)) hlb11 (.int .i64 t5)) hlb11 (.int .u64 t6)) hlb11 (.string t7)) hlb11 (.slice Au48 t8.length cu48))
 clear hw47_s
 refine zbv (i := 9) (r := []) (w' := w47_s) 3 (.int .i64 t9) rfl rfl (zae rfl) q9 ?_
 simp only [pa]
 refine zaX ?_
 simp only [Exit.then]
 replace HCu46 := cb HCu46 hg
 replace HRu46 := rb HRu46 hg
 replace HXb1 := ab HXb1 hg
 replace HB := hbm HB hg
 clear hg
 refine wp_seq ?_
 replace h := Option.bind_eq_some_iff.1 h
 obtain ⟨t12, F13, h⟩ := h
 try dsimp only at h
 replace F13 := zaa.mk F13
 replace h := Option.bind_eq_some_iff.1 h
 obtain ⟨⟨t14, t15, t16, t17, t18⟩, F19, h⟩ := h
 try dsimp only at h
 replace F19 := zaa.mk F19
 replace h := Option.bind_eq_some_iff.1 h
 obtain ⟨⟨t20, t21, t22, t23, t24, t25⟩, F26, h⟩ := h
 try dsimp only at h
 replace F26 := zaa.mk F26
 refine zcB (N := 63) 8 [6] Grows k9 k9 rfl Grows.refl Grows.trans rfl rfl rfl rfl k9 ?_
 rw [show List.range 8 = [0, 1, 2, 3, 4, 5, 6, 7] from rfl]
 refine zbW (OneC k64 t12 (fun u => u)) OneC.grows rfl rfl Try.func6 k9 rfl (fun _ _ _ _ => zae rfl) ?_ ?_
 ·
  intro a w' hr hs
  rw [show (#[] : Array Operand).map a.eval = #[] by simp]
  refine (zbd.calls t12 _ F13.out).mono ?_
  rintro e w3 ⟨v, rfl, hN, hb⟩
  obtain ⟨A9, c9, rfl, hc9, hC9⟩ := Kd.zey hN
  exact ⟨_, rfl, hb, A9, c9, rfl, hc9, hC9⟩
 refine rglv (.agg #[.int .i64 7, .int .i64 1, .int .u64 0, .string (⟨#[67]⟩ : ByteArray), .slice Au46 ([(⟨false, (⟨#[67]⟩ : ByteArray), (-1)⟩ : S35), (⟨true, (⟨#[67]⟩ : ByteArray), 1⟩ : S35)] : List (S35)).length cu46]) ?_ ?_
 ·
  intro a w' hr hs
  have h1 := hs.ov 1 (.pointer (some ⟨b1_, 0, none⟩))
  have x := hr.at (zcd HXb1.out)
  have x0 := zad x 0
  have x1 := zad x 1
  have x2 := zad x 2
  have x3 := zad x 3
  have x4 := zad x 4
  simp only [ga] at x0 x1 x2 x3 x4
  go_simp
 refine zbW (OneR k35 35 t18 (vA t14 t15 t16 t17)) OneR.grows rfl rfl Try.func11 k9 rfl (fun _ _ _ _ => zae rfl) ?_ ?_
 ·
  intro a w' hr hs
  rw [show (#[] : Array Operand).map a.eval = #[] by simp]
  refine (zaJ.calls t14 t15 t16 t17 t18 _ F19.out).mono ?_
  rintro e w3 ⟨v, rfl, hR, hb⟩
  exact ⟨_, rfl, hb, OneR.of hR⟩
 refine zbW (OneR k35 35 t24 (vT t20 t21 t22 t23 t25)) OneR.grows rfl rfl Try.func16 k9 rfl (fun _ _ _ _ => zae rfl) ?_ ?_
 ·
  intro a w' hr hs
  have g18 : OneC k64 t12 (fun u => u) (a.tmps[18]?.getD undef) w' := hs.g 2
  obtain ⟨A18, c18, h18, hc18, hC18⟩ := g18.reads
  replace h18 : a.tmps[18]?.getD undef = .slice A18 t12.length c18 := h18
  have h19 := hs.gv 1 rfl rfl
  obtain ⟨A20, c20, h20, hc20, hC20, hR20⟩ := hs.rd 0 rfl rfl
  simp only [vA] at h20
  rw [show (#[Operand.tmp 18, Operand.tmp 19, Operand.const (.string (⟨#[109]⟩ : ByteArray)), Operand.const (.int .i64 0), Operand.tmp 20, Operand.const (.bool false)] : Array Operand).map a.eval = #[.slice A18 t12.length c18, .agg #[.int .i64 7, .int .i64 1, .int .u64 0, .string (⟨#[67]⟩ : ByteArray), .slice Au46 ([(⟨false, (⟨#[67]⟩ : ByteArray), (-1)⟩ : S35), (⟨true, (⟨#[67]⟩ : ByteArray), 1⟩ : S35)] : List (S35)).length cu46], .string (⟨#[109]⟩ : ByteArray), .int .i64 0, .agg #[.int .i64 t14, .int .i64 t15, .int .u64 t16, .string t17, .slice A20 t18.length c20], .bool false] by simp [Act.eval, h18, h19, h20]]
  refine (zbe.calls k A18 c18 t12 7 1 0 (⟨#[67]⟩ : ByteArray) Au46 cu46 ([(⟨false, (⟨#[67]⟩ : ByteArray), (-1)⟩ : S35), (⟨true, (⟨#[67]⟩ : ByteArray), 1⟩ : S35)] : List (S35)) (⟨#[109]⟩ : ByteArray) 0 t14 t15 t16 t17 A20 c20 t18 false t20 t21 t22 t23 t24 t25 _ hC18 hc18 (Kd.zat (Kd.zbu HCu46.out) hr) hcu46 hC20 hc20 F26.out).mono ?_
  rintro e w3 ⟨v, rfl, hR, hb⟩
  exact ⟨_, rfl, hb, OneR.of hR⟩
 refine zcc (OneR k35 35 t24 (vT t20 t21 t22 t23 t25)) OneR.grows Grows.refl rfl (fun _ _ _ _ => zae rfl) ?_ ?_
 ·
  intro a w' hr hs
  obtain ⟨A21, c21, h21, hc21, hC21, hR21⟩ := hs.rd 0 rfl rfl
  simp only [vT] at h21
  exact ⟨.tuple #[.agg #[.int .i64 t20, .int .i64 t21, .int .u64 t22, .string t23, .slice A21 t24.length c21], .int .i64 t25], by go_simp, _, rfl, hR21⟩
 refine zcc (OneR k35 35 t24 (vA t20 t21 t22 t23)) OneR.grows Grows.refl rfl (fun _ _ _ _ => zae rfl) ?_ ?_
 ·
  intro a w' hr hs
  obtain ⟨A17, c17, h17, hc17, hC17, hR17⟩ := hs.rd 0 rfl rfl
  simp only [vT] at h17
  exact ⟨.agg #[.int .i64 t20, .int .i64 t21, .int .u64 t22, .string t23, .slice A17 t24.length c17], by go_simp, _, rfl, hR17⟩
 refine zdl (.int .i64 t25) Grows.refl rfl (fun _ _ _ _ => zae rfl) ?_ ?_
 ·
  intro a w' hr hs w3
  obtain ⟨A17, c17, h17, hc17, hC17, hR17⟩ := hs.rd 1 rfl rfl
  simp only [vT] at h17
  go_simp
 refine zdv (Boxed #[.int .i64 0, .int .i64 0, .int .u64 0, .string (⟨#[]⟩ : ByteArray), .slice none 0 0] 27 w47_s.heap.size) Boxed.grows rfl (fun _ _ _ _ => zae rfl) ?_ ?_
 ·
  intro a w' hr hs
  exact ⟨_, _, by go_simp, Grows.alloc _ _, Boxed.new hr.size⟩
 intro vs w49_ hr hE
 have g_ : OneR k35 35 t24 (vA t20 t21 t22 t23) (vs 5) w49_ := hE _ (zbs 2 rfl)
 obtain ⟨Au50, cu50, e5, hcu50, hCu50, hRu50⟩ := g_.reads
 clear g_
 replace e5 : vs 5 = .agg #[.int .i64 t20, .int .i64 t21, .int .u64 t22, .string t23, .slice Au50 t24.length cu50] := e5
 have HCu50 := zaa.mk hCu50
 clear hCu50
 have HRu50 := zaa.mk hRu50
 clear hRu50
 have e6 : vs 6 = .int .i64 t25 := hE _ (zbs 1 rfl)
 obtain ⟨b27_, e7, HXb27, hlb27⟩ := hE _ (zbs 0 rfl)
 replace HXb27 := zaa.mk HXb27
 have hwb27 : w.heap.size ≤ b27_ := Nat.le_trans HB.out.size hlb27
 have hneb1b27 : b1_ ≠ b27_ := by have := zai HXb1.out; omega
 have hneb11b27 : b11_ ≠ b27_ := by have := zai HXb11.out; omega
 have hg : Grows w47_s w49_ := Below.trans (Below.refl w47_s.heap.size w47_s).drew hr
 clear hE hr
 rw [show List.range 8 = [0, 1, 2, 3, 4, 5, 6, 7] from rfl]
 simp only [ps, ga, pa, e5, e6, e7]
 clear e5 e6 e7
 have z0 := zad HXb27.out 0
 have f0 := free_at HXb27.out 0
 have z1 := zad HXb27.out 1
 have f1 := free_at HXb27.out 1
 have z2 := zad HXb27.out 2
 have f2 := free_at HXb27.out 2
 have z3 := zad HXb27.out 3
 have f3 := free_at HXb27.out 3
 have z4 := zad HXb27.out 4
 have f4 := free_at HXb27.out 4
 simp only [ga] at z0 z1 z2 z3 z4
 obtain ⟨w49_s, hw49_s⟩ : ∃ W, W = (((((w49_.setCell ⟨b27_, 0, none⟩ (.int .i64 t20)).setCell ⟨b27_, 1, none⟩ (.int .i64 t21)).setCell ⟨b27_, 2, none⟩ (.int .u64 t22)).setCell ⟨b27_, 3, none⟩ (.string t23)).setCell ⟨b27_, 4, none⟩ (.slice Au50 t24.length cu50)) := ⟨_, rfl⟩
 refine ⟨_, w49_s, rfl, by rw [hw49_s]; go_simp, ?_⟩
 clear z0 z1 z2 z3 z4 f0 f1 f2 f3 f4
 have hR_ := (Kd.R_set (Kd.R_set (Kd.R_set (Kd.R_set (Kd.R_set HRu50.out HXb27.out d9 0 (.int .i64 t20)) (zaf HXb27.out 0 (.int .i64 t20) rfl) d9 1 (.int .i64 t21)) (zaf (zaf HXb27.out 0 (.int .i64 t20) rfl) 1 (.int .i64 t21) rfl) d9 2 (.int .u64 t22)) (zaf (zaf (zaf HXb27.out 0 (.int .i64 t20) rfl) 1 (.int .i64 t21) rfl) 2 (.int .u64 t22) rfl) d9 3 (.string t23)) (zaf (zaf (zaf (zaf HXb27.out 0 (.int .i64 t20) rfl) 1 (.int .i64 t21) rfl) 2 (.int .u64 t22) rfl) 3 (.string t23) rfl) d9 4 (.slice Au50 t24.length cu50))
 rw [← hw49_s] at hR_
 have HCu50 := zaa.mk (Kd.zbn hR_).2.2
 replace HRu50 := zaa.mk hR_
 clear hR_
 have hX_ : w49_s.heap[b27_]? = some (.cells #[.int .i64 t20, .int .i64 t21, .int .u64 t22, .string t23, .slice Au50 t24.length cu50] 27 (0, 0)) := by rw [hw49_s]; exact (zaf (zaf (zaf (zaf (zaf HXb27.out 0 (.int .i64 t20) rfl) 1 (.int .i64 t21) rfl) 2 (.int .u64 t22) rfl) 3 (.string t23) rfl) 4 (.slice Au50 t24.length cu50) rfl)
 replace HXb27 := zaa.mk hX_
 clear hX_
 replace hg : Grows w47_s w49_s := by rw [hw49_s]; exact (setB (setB (setB (setB (setB hg hlb27 (.int .i64 t20)) hlb27 (.int .i64 t21)) hlb27 (.int .u64 t22)) hlb27 (.string t23)) hlb27 (.slice Au50 t24.length cu50))
 clear hw49_s
 refine zbv (i := 9) (r := []) (w' := w49_s) 5 (.int .i64 t25) rfl rfl (zae rfl) q9 ?_
 simp only [pa]
 refine zaX ?_
 simp only [Exit.then]
 replace HCu46 := cb HCu46 hg
 replace HRu46 := rb HRu46 hg
 replace HCu48 := cb HCu48 hg
 replace HRu48 := rb HRu48 hg
 replace HXb1 := ab HXb1 hg
 replace HXb11 := ab HXb11 hg
 replace HB := hbm HB hg
 clear hg
 refine wp_seq ?_
 replace h := Option.bind_eq_some_iff.1 h
 obtain ⟨t28, F29, h⟩ := h
 try dsimp only at h
 replace F29 := zaa.mk F29
 by_cases q51 : t28 = true
 ·
  rw [if_pos q51] at h
  obtain rfl : t28 = true := by simpa using q51
  replace h := Option.bind_eq_some_iff.1 h
  obtain ⟨⟨t30, t31, t32, t33, t34⟩, F35, h⟩ := h
  try dsimp only at h
  replace F35 := zaa.mk F35
  replace h := Option.bind_eq_some_iff.1 h
  obtain ⟨t36, F37, h⟩ := h
  try dsimp only at h
  replace F37 := zaa.mk F37
  by_cases q52 : t36 = true
  ·
   rw [if_pos q52] at h
   obtain rfl : t36 = true := by simpa using q52
   replace h := Option.bind_eq_some_iff.1 h
   obtain ⟨t38, F39, h⟩ := h
   try dsimp only at h
   replace F39 := zaa.mk F39
   by_cases q53 : t38 = true
   ·
    rw [if_pos q53] at h
    obtain rfl : t38 = true := by simpa using q53
    by_cases q54 : (t9 == 0) = true
    ·
     rw [if_pos q54] at h
     have q54a : (t9 == 0) = true := by simpa using q54
     have q54b : decide (t9 = 0) = true := by simpa using q54
     clear q54
     replace h := Option.bind_eq_some_iff.1 h
     obtain ⟨t40, F41, h⟩ := h
     try dsimp only at h
     replace F41 := zaa.mk F41
     by_cases q55 : t40 = true
     ·
      rw [if_pos q55] at h
      obtain rfl : t40 = true := by simpa using q55
      by_cases q56 : (t25 == (-1)) = true
      ·
       rw [if_pos q56] at h
       have q56a : (t25 == (-1)) = true := by simpa using q56
       have q56b : decide (t25 = (-1)) = true := by simpa using q56
       clear q56
       replace h := Option.bind_eq_some_iff.1 h
       obtain ⟨t42, F43, h⟩ := h
       try dsimp only at h
       replace F43 := zaa.mk F43
       refine zgt (N := 63) 40 Grows k9 k9 rfl Grows.refl Grows.trans ?_
       rw [show List.range 40 = [0, 1, 2, 3, 4, 5, 6, 7, 8, 9, 10, 11, 12, 13, 14, 15, 16, 17, 18, 19, 20, 21, 22, 23, 24, 25, 26, 27, 28, 29, 30, 31, 32, 33, 34, 35, 36, 37, 38, 39] from rfl]
       refine rgc (fun v _ => v = .agg #[.int .i64 7, .int .i64 1, .int .u64 0, .string (⟨#[69]⟩ : ByteArray), .slice none 0 0]) Try.func9 ?_ ?_
       ·
        intro a w' hr hs
        rw [show (#[Operand.const (.string (⟨#[69]⟩ : ByteArray)), Operand.const (.slice none 0 0)] : Array Operand).map a.eval = #[.string (⟨#[69]⟩ : ByteArray), .slice none 0 0] by simp [Act.eval]]
        refine (zaQ.zde _ _ _ _ _).mono ?_
        rintro e w3 ⟨rfl, hb⟩
        exact ⟨_, rfl, hb, rfl⟩
       refine rgc (fun v _ => v = .agg #[.bool false, .string (⟨#[69]⟩ : ByteArray), .int .i64 (-2)]) Try.func10 ?_ ?_
       ·
        intro a w' hr hs
        rw [show (#[Operand.const (.string (⟨#[69]⟩ : ByteArray)), Operand.const (.int .i64 (-2))] : Array Operand).map a.eval = #[.string (⟨#[69]⟩ : ByteArray), .int .i64 (-2)] by simp [Act.eval]]
        refine (zbF.calls (⟨#[69]⟩ : ByteArray) (-2) false (⟨#[69]⟩ : ByteArray) (-2) _ rfl).mono ?_
        rintro e w3 ⟨rfl, hb⟩
        exact ⟨_, rfl, hb, rfl⟩
       refine rgc (fun v _ => v = .agg #[.bool true, .string (⟨#[68]⟩ : ByteArray), .int .i64 2]) Try.func17 ?_ ?_
       ·
        intro a w' hr hs
        rw [show (#[Operand.const (.string (⟨#[68]⟩ : ByteArray)), Operand.const (.int .i64 2)] : Array Operand).map a.eval = #[.string (⟨#[68]⟩ : ByteArray), .int .i64 2] by simp [Act.eval]]
        refine (zbO.calls (⟨#[68]⟩ : ByteArray) 2 true (⟨#[68]⟩ : ByteArray) 2 _ rfl).mono ?_
        rintro e w3 ⟨rfl, hb⟩
        exact ⟨_, rfl, hb, rfl⟩
       refine zdc k35 35 ([(⟨false, (⟨#[69]⟩ : ByteArray), (-2)⟩ : S35), (⟨true, (⟨#[68]⟩ : ByteArray), 2⟩ : S35)] : List (S35)) rfl rfl (fun _ _ _ _ => zae rfl) s9 ?_ ?_
       ·
        intro a w' hr hs
        have h25 := hs.gv 1 rfl rfl
        have h26 := hs.gv 0 rfl rfl
        refine ⟨[.bool false, .string (⟨#[69]⟩ : ByteArray), .int .i64 (-2), .bool true, .string (⟨#[68]⟩ : ByteArray), .int .i64 2], by go_simp <;> rfl, ?_⟩
        exact Reps.c3 (show Kd.M k35 _ _ _ (⟨false, (⟨#[69]⟩ : ByteArray), (-2)⟩ : S35) [.bool false, .string (⟨#[69]⟩ : ByteArray), .int .i64 (-2)] from zce _ _ _ _) (Reps.c3 (show Kd.M k35 _ _ _ (⟨true, (⟨#[68]⟩ : ByteArray), 2⟩ : S35) [.bool true, .string (⟨#[68]⟩ : ByteArray), .int .i64 2] from zce _ _ _ _) (Reps.none _ _))
       refine rgc (OneR k35 35 ([(⟨false, (⟨#[69]⟩ : ByteArray), (-2)⟩ : S35), (⟨true, (⟨#[68]⟩ : ByteArray), 2⟩ : S35)] : List (S35)) (vA 7 1 0 (⟨#[69]⟩ : ByteArray))) Try.func9 ?_ ?_
       ·
        intro a w' hr hs
        have g27 : OneR k35 35 ([(⟨false, (⟨#[69]⟩ : ByteArray), (-2)⟩ : S35), (⟨true, (⟨#[68]⟩ : ByteArray), 2⟩ : S35)] : List (S35)) (fun u => u) (a.tmps[27]?.getD undef) w' := hs.g 0
        obtain ⟨A27, c27, h27, hc27, hC27, hR27⟩ := g27.reads
        replace h27 : a.tmps[27]?.getD undef = .slice A27 ([(⟨false, (⟨#[69]⟩ : ByteArray), (-2)⟩ : S35), (⟨true, (⟨#[68]⟩ : ByteArray), 2⟩ : S35)] : List (S35)).length c27 := h27
        rw [show (#[Operand.const (.string (⟨#[69]⟩ : ByteArray)), Operand.tmp 27] : Array Operand).map a.eval = #[.string (⟨#[69]⟩ : ByteArray), .slice A27 ([(⟨false, (⟨#[69]⟩ : ByteArray), (-2)⟩ : S35), (⟨true, (⟨#[68]⟩ : ByteArray), 2⟩ : S35)] : List (S35)).length c27] by simp [Act.eval, h27]]
        refine (zaQ.zde _ _ _ _ _).mono ?_
        rintro e w3 ⟨rfl, hb⟩
        exact ⟨_, rfl, hb, _, rfl, Kd.zbC hR27 hb⟩
       refine rgc (fun v _ => v = .bool true) Try.func12 ?_ ?_
       ·
        intro a w' hr hs
        have h24 := hs.gv 4 rfl rfl
        have g28 : OneR k35 35 ([(⟨false, (⟨#[69]⟩ : ByteArray), (-2)⟩ : S35), (⟨true, (⟨#[68]⟩ : ByteArray), 2⟩ : S35)] : List (S35)) (vA 7 1 0 (⟨#[69]⟩ : ByteArray)) (a.tmps[28]?.getD undef) w' := hs.g 0
        obtain ⟨A28, c28, h28, hc28, hC28, hR28⟩ := g28.reads
        replace h28 : a.tmps[28]?.getD undef = .agg #[.int .i64 7, .int .i64 1, .int .u64 0, .string (⟨#[69]⟩ : ByteArray), .slice A28 ([(⟨false, (⟨#[69]⟩ : ByteArray), (-2)⟩ : S35), (⟨true, (⟨#[68]⟩ : ByteArray), 2⟩ : S35)] : List (S35)).length c28] := h28
        rw [show (#[Operand.tmp 24, Operand.const (.string (⟨#[69]⟩ : ByteArray)), Operand.const (.string (⟨#[68]⟩ : ByteArray)), Operand.const (.int .i64 2), Operand.tmp 28, Operand.const (.int .i64 0)] : Array Operand).map a.eval = #[.agg #[.int .i64 7, .int .i64 1, .int .u64 0, .string (⟨#[69]⟩ : ByteArray), .slice none 0 0], .string (⟨#[69]⟩ : ByteArray), .string (⟨#[68]⟩ : ByteArray), .int .i64 2, .agg #[.int .i64 7, .int .i64 1, .int .u64 0, .string (⟨#[69]⟩ : ByteArray), .slice A28 ([(⟨false, (⟨#[69]⟩ : ByteArray), (-2)⟩ : S35), (⟨true, (⟨#[68]⟩ : ByteArray), 2⟩ : S35)] : List (S35)).length c28], .int .i64 0] by simp [Act.eval, h24, h28]]
        refine (zaP.calls k 7 1 0 (⟨#[69]⟩ : ByteArray) none 0 ([] : List (S35)) (⟨#[69]⟩ : ByteArray) (⟨#[68]⟩ : ByteArray) 2 7 1 0 (⟨#[69]⟩ : ByteArray) A28 c28 ([(⟨false, (⟨#[69]⟩ : ByteArray), (-2)⟩ : S35), (⟨true, (⟨#[68]⟩ : ByteArray), 2⟩ : S35)] : List (S35)) 0 true _ (Kd.C_nil _ _) (Nat.le_refl _) hC28 hc28 F29.out).mono ?_
        rintro e w3 ⟨rfl, hb⟩
        exact ⟨_, rfl, hb, rfl⟩
       refine rgv (.bool true) ?_ ?_
       ·
        intro a w' hr hs
        have h29 := hs.gv 0 rfl rfl
        go_simp
       refine zbc (OneR k35 35 t34 (vA t30 t31 t32 t33)) OneR.grows rfl rfl Try.func11 k9 rfl (fun a w hr hs => zax (g := 6) (t := 30) rfl rfl (hs.g 0)) ?_ ?_
       ·
        intro a w' hr hs
        rw [show (#[] : Array Operand).map a.eval = #[] by simp]
        refine (zaJ.calls t30 t31 t32 t33 t34 _ F35.out).mono ?_
        rintro e w3 ⟨v, rfl, hR, hb⟩
        exact ⟨_, rfl, hb, OneR.of hR⟩
       refine zaF (.agg #[.int .i64 0, .int .i64 0, .int .u64 0, .string (⟨#[]⟩ : ByteArray), .slice none 0 0]) Grows.refl rfl (fun a w hr hs => zax (g := 6) (t := 30) rfl rfl (hs.g 1)) ?_ ?_
       ·
        intro a w' hr hs
        go_simp
       refine zbc (fun v _ => v = .bool true) (fun _ _ _ _ h => h) rfl rfl Try.func12 k9 rfl (fun a w hr hs => zax (g := 6) (t := 30) rfl rfl (hs.g 2)) ?_ ?_
       ·
        intro a w' hr hs
        obtain ⟨A31, c31, h31, hc31, hC31, hR31⟩ := hs.rd 1 rfl rfl
        simp only [vA] at h31
        have h32 := hs.gv 0 rfl rfl
        rw [show (#[Operand.tmp 31, Operand.const (.string (⟨#[63]⟩ : ByteArray)), Operand.const (.string (⟨#[115, 116, 114]⟩ : ByteArray)), Operand.const (.int .i64 1), Operand.tmp 32, Operand.const (.int .i64 1)] : Array Operand).map a.eval = #[.agg #[.int .i64 t30, .int .i64 t31, .int .u64 t32, .string t33, .slice A31 t34.length c31], .string (⟨#[63]⟩ : ByteArray), .string (⟨#[115, 116, 114]⟩ : ByteArray), .int .i64 1, .agg #[.int .i64 0, .int .i64 0, .int .u64 0, .string (⟨#[]⟩ : ByteArray), .slice none 0 0], .int .i64 1] by simp [Act.eval, h31, h32]]
        refine (zaP.calls k t30 t31 t32 t33 A31 c31 t34 (⟨#[63]⟩ : ByteArray) (⟨#[115, 116, 114]⟩ : ByteArray) 1 0 0 0 (⟨#[]⟩ : ByteArray) none 0 ([] : List (S35)) 1 true _ hC31 hc31 (Kd.C_nil _ _) (Nat.le_refl _) F37.out).mono ?_
        rintro e w3 ⟨rfl, hb⟩
        exact ⟨_, rfl, hb, rfl⟩
       refine rgv (.bool true) ?_ ?_
       ·
        intro a w' hr hs
        have h30 := hs.gv 3 rfl rfl
        have h33 := hs.gv 0 rfl rfl
        go_simp
       refine rgv (.bool true) ?_ ?_
       ·
        intro a w' hr hs
        have h34 := hs.gv 0 rfl rfl
        go_simp
       refine zbc (fun v _ => v = .agg #[.bool false, .string (⟨#[68]⟩ : ByteArray), .int .i64 1]) (fun _ _ _ _ h => h) rfl rfl Try.func10 k9 rfl (fun a w hr hs => zax (g := 11) (t := 35) rfl rfl (hs.g 0)) ?_ ?_
       ·
        intro a w' hr hs
        rw [show (#[Operand.const (.string (⟨#[68]⟩ : ByteArray)), Operand.const (.int .i64 1)] : Array Operand).map a.eval = #[.string (⟨#[68]⟩ : ByteArray), .int .i64 1] by simp [Act.eval]]
        refine (zbF.calls (⟨#[68]⟩ : ByteArray) 1 false (⟨#[68]⟩ : ByteArray) 1 _ rfl).mono ?_
        rintro e w3 ⟨rfl, hb⟩
        exact ⟨_, rfl, hb, rfl⟩
       refine zdc k35 35 ([(⟨false, (⟨#[68]⟩ : ByteArray), 1⟩ : S35)] : List (S35)) rfl rfl (fun a w hr hs => zax (g := 11) (t := 35) rfl rfl (hs.g 1)) s9 ?_ ?_
       ·
        intro a w' hr hs
        have h36 := hs.gv 0 rfl rfl
        refine ⟨[.bool false, .string (⟨#[68]⟩ : ByteArray), .int .i64 1], by go_simp <;> rfl, ?_⟩
        exact Reps.c3 (show Kd.M k35 _ _ _ (⟨false, (⟨#[68]⟩ : ByteArray), 1⟩ : S35) [.bool false, .string (⟨#[68]⟩ : ByteArray), .int .i64 1] from zce _ _ _ _) (Reps.none _ _)
       refine zbc (OneR k35 35 ([(⟨false, (⟨#[68]⟩ : ByteArray), 1⟩ : S35)] : List (S35)) (vA 7 1 0 (⟨#[69]⟩ : ByteArray))) OneR.grows rfl rfl Try.func9 k9 rfl (fun a w hr hs => zax (g := 11) (t := 35) rfl rfl (hs.g 2)) ?_ ?_
       ·
        intro a w' hr hs
        have g37 : OneR k35 35 ([(⟨false, (⟨#[68]⟩ : ByteArray), 1⟩ : S35)] : List (S35)) (fun u => u) (a.tmps[37]?.getD undef) w' := hs.g 0
        obtain ⟨A37, c37, h37, hc37, hC37, hR37⟩ := g37.reads
        replace h37 : a.tmps[37]?.getD undef = .slice A37 ([(⟨false, (⟨#[68]⟩ : ByteArray), 1⟩ : S35)] : List (S35)).length c37 := h37
        rw [show (#[Operand.const (.string (⟨#[69]⟩ : ByteArray)), Operand.tmp 37] : Array Operand).map a.eval = #[.string (⟨#[69]⟩ : ByteArray), .slice A37 ([(⟨false, (⟨#[68]⟩ : ByteArray), 1⟩ : S35)] : List (S35)).length c37] by simp [Act.eval, h37]]
        refine (zaQ.zde _ _ _ _ _).mono ?_
        rintro e w3 ⟨rfl, hb⟩
        exact ⟨_, rfl, hb, _, rfl, Kd.zbC hR37 hb⟩
       refine zaF (.agg #[.int .i64 0, .int .i64 0, .int .u64 0, .string (⟨#[]⟩ : ByteArray), .slice none 0 0]) Grows.refl rfl (fun a w hr hs => zax (g := 11) (t := 35) rfl rfl (hs.g 3)) ?_ ?_
       ·
        intro a w' hr hs
        go_simp
       refine zbc (fun v _ => v = .bool true) (fun _ _ _ _ h => h) rfl rfl Try.func13 k9 rfl (fun a w hr hs => zax (g := 11) (t := 35) rfl rfl (hs.g 4)) ?_ ?_
       ·
        intro a w' hr hs
        have g38 : OneR k35 35 ([(⟨false, (⟨#[68]⟩ : ByteArray), 1⟩ : S35)] : List (S35)) (vA 7 1 0 (⟨#[69]⟩ : ByteArray)) (a.tmps[38]?.getD undef) w' := hs.g 1
        obtain ⟨A38, c38, h38, hc38, hC38, hR38⟩ := g38.reads
        replace h38 : a.tmps[38]?.getD undef = .agg #[.int .i64 7, .int .i64 1, .int .u64 0, .string (⟨#[69]⟩ : ByteArray), .slice A38 ([(⟨false, (⟨#[68]⟩ : ByteArray), 1⟩ : S35)] : List (S35)).length c38] := h38
        have h39 := hs.gv 0 rfl rfl
        rw [show (#[Operand.tmp 38, Operand.const (.string (⟨#[69]⟩ : ByteArray)), Operand.const (.int .i64 5), Operand.tmp 39, Operand.const (.int .i64 5)] : Array Operand).map a.eval = #[.agg #[.int .i64 7, .int .i64 1, .int .u64 0, .string (⟨#[69]⟩ : ByteArray), .slice A38 ([(⟨false, (⟨#[68]⟩ : ByteArray), 1⟩ : S35)] : List (S35)).length c38], .string (⟨#[69]⟩ : ByteArray), .int .i64 5, .agg #[.int .i64 0, .int .i64 0, .int .u64 0, .string (⟨#[]⟩ : ByteArray), .slice none 0 0], .int .i64 5] by simp [Act.eval, h38, h39]]
        refine (zaS.calls k 7 1 0 (⟨#[69]⟩ : ByteArray) A38 c38 ([(⟨false, (⟨#[68]⟩ : ByteArray), 1⟩ : S35)] : List (S35)) (⟨#[69]⟩ : ByteArray) 5 0 0 0 (⟨#[]⟩ : ByteArray) none 0 ([] : List (S35)) 5 true _ hC38 hc38 (Kd.C_nil _ _) (Nat.le_refl _) F39.out).mono ?_
        rintro e w3 ⟨rfl, hb⟩
        exact ⟨_, rfl, hb, rfl⟩
       refine rgv (.bool true) ?_ ?_
       ·
        intro a w' hr hs
        have h35 := hs.gv 5 rfl rfl
        have h40 := hs.gv 0 rfl rfl
        go_simp
       refine rgv (.bool true) ?_ ?_
       ·
        intro a w' hr hs
        have h41 := hs.gv 0 rfl rfl
        go_simp
       refine zaF (.int .i64 t9) Grows.refl rfl (fun a w hr hs => zax (g := 18) (t := 42) rfl rfl (hs.g 0)) ?_ ?_
       ·
        intro a w' hr hs
        have h3 := hs.ov 3 (.int .i64 t9)
        go_simp
       refine zaF (.bool true) Grows.refl rfl (fun a w hr hs => zax (g := 18) (t := 42) rfl rfl (hs.g 1)) ?_ ?_
       ·
        intro a w' hr hs
        have h43 := hs.gv 0 rfl rfl
        go_simp
       refine rgv (.bool true) ?_ ?_
       ·
        intro a w' hr hs
        have h42 := hs.gv 2 rfl rfl
        have h44 := hs.gv 0 rfl rfl
        go_simp
       refine rgv (.bool true) ?_ ?_
       ·
        intro a w' hr hs
        have h45 := hs.gv 0 rfl rfl
        go_simp
       refine zaF (.agg #[.int .i64 t4, .int .i64 t5, .int .u64 t6, .string t7, .slice Au48 t8.length cu48]) Grows.refl rfl (fun a w hr hs => zax (g := 22) (t := 46) rfl rfl (hs.g 0)) ?_ ?_
       ·
        intro a w' hr hs
        have h2 := hs.ov 2 (.pointer (some ⟨b11_, 0, none⟩))
        have x := hr.at (zcd HXb11.out)
        have x0 := zad x 0
        have x1 := zad x 1
        have x2 := zad x 2
        have x3 := zad x 3
        have x4 := zad x 4
        simp only [ga] at x0 x1 x2 x3 x4
        go_simp
       refine zbc (fun v _ => v = .agg #[.bool false, .string (⟨#[68]⟩ : ByteArray), .int .i64 (-1)]) (fun _ _ _ _ h => h) rfl rfl Try.func10 k9 rfl (fun a w hr hs => zax (g := 22) (t := 46) rfl rfl (hs.g 1)) ?_ ?_
       ·
        intro a w' hr hs
        rw [show (#[Operand.const (.string (⟨#[68]⟩ : ByteArray)), Operand.const (.int .i64 (-1))] : Array Operand).map a.eval = #[.string (⟨#[68]⟩ : ByteArray), .int .i64 (-1)] by simp [Act.eval]]
        refine (zbF.calls (⟨#[68]⟩ : ByteArray) (-1) false (⟨#[68]⟩ : ByteArray) (-1) _ rfl).mono ?_
        rintro e w3 ⟨rfl, hb⟩
        exact ⟨_, rfl, hb, rfl⟩
       refine zbc (fun v _ => v = .agg #[.bool true, .string (⟨#[68]⟩ : ByteArray), .int .i64 1]) (fun _ _ _ _ h => h) rfl rfl Try.func17 k9 rfl (fun a w hr hs => zax (g := 22) (t := 46) rfl rfl (hs.g 2)) ?_ ?_
       ·
        intro a w' hr hs
        rw [show (#[Operand.const (.string (⟨#[68]⟩ : ByteArray)), Operand.const (.int .i64 1)] : Array Operand).map a.eval = #[.string (⟨#[68]⟩ : ByteArray), .int .i64 1] by simp [Act.eval]]
        refine (zbO.calls (⟨#[68]⟩ : ByteArray) 1 true (⟨#[68]⟩ : ByteArray) 1 _ rfl).mono ?_
        rintro e w3 ⟨rfl, hb⟩
        exact ⟨_, rfl, hb, rfl⟩
       refine zdc k35 35 ([(⟨false, (⟨#[68]⟩ : ByteArray), (-1)⟩ : S35), (⟨true, (⟨#[68]⟩ : ByteArray), 1⟩ : S35)] : List (S35)) rfl rfl (fun a w hr hs => zax (g := 22) (t := 46) rfl rfl (hs.g 3)) s9 ?_ ?_
       ·
        intro a w' hr hs
        have h48 := hs.gv 1 rfl rfl
        have h49 := hs.gv 0 rfl rfl
        refine ⟨[.bool false, .string (⟨#[68]⟩ : ByteArray), .int .i64 (-1), .bool true, .string (⟨#[68]⟩ : ByteArray), .int .i64 1], by go_simp <;> rfl, ?_⟩
        exact Reps.c3 (show Kd.M k35 _ _ _ (⟨false, (⟨#[68]⟩ : ByteArray), (-1)⟩ : S35) [.bool false, .string (⟨#[68]⟩ : ByteArray), .int .i64 (-1)] from zce _ _ _ _) (Reps.c3 (show Kd.M k35 _ _ _ (⟨true, (⟨#[68]⟩ : ByteArray), 1⟩ : S35) [.bool true, .string (⟨#[68]⟩ : ByteArray), .int .i64 1] from zce _ _ _ _) (Reps.none _ _))
       refine zbc (OneR k35 35 ([(⟨false, (⟨#[68]⟩ : ByteArray), (-1)⟩ : S35), (⟨true, (⟨#[68]⟩ : ByteArray), 1⟩ : S35)] : List (S35)) (vA 7 1 0 (⟨#[69]⟩ : ByteArray))) OneR.grows rfl rfl Try.func9 k9 rfl (fun a w hr hs => zax (g := 22) (t := 46) rfl rfl (hs.g 4)) ?_ ?_
       ·
        intro a w' hr hs
        have g50 : OneR k35 35 ([(⟨false, (⟨#[68]⟩ : ByteArray), (-1)⟩ : S35), (⟨true, (⟨#[68]⟩ : ByteArray), 1⟩ : S35)] : List (S35)) (fun u => u) (a.tmps[50]?.getD undef) w' := hs.g 0
        obtain ⟨A50, c50, h50, hc50, hC50, hR50⟩ := g50.reads
        replace h50 : a.tmps[50]?.getD undef = .slice A50 ([(⟨false, (⟨#[68]⟩ : ByteArray), (-1)⟩ : S35), (⟨true, (⟨#[68]⟩ : ByteArray), 1⟩ : S35)] : List (S35)).length c50 := h50
        rw [show (#[Operand.const (.string (⟨#[69]⟩ : ByteArray)), Operand.tmp 50] : Array Operand).map a.eval = #[.string (⟨#[69]⟩ : ByteArray), .slice A50 ([(⟨false, (⟨#[68]⟩ : ByteArray), (-1)⟩ : S35), (⟨true, (⟨#[68]⟩ : ByteArray), 1⟩ : S35)] : List (S35)).length c50] by simp [Act.eval, h50]]
        refine (zaQ.zde _ _ _ _ _).mono ?_
        rintro e w3 ⟨rfl, hb⟩
        exact ⟨_, rfl, hb, _, rfl, Kd.zbC hR50 hb⟩
       refine zbc (fun v _ => v = .bool true) (fun _ _ _ _ h => h) rfl rfl Try.func14 k9 rfl (fun a w hr hs => zax (g := 22) (t := 46) rfl rfl (hs.g 5)) ?_ ?_
       ·
        intro a w' hr hs
        have h47 := hs.gv 4 rfl rfl
        have g51 : OneR k35 35 ([(⟨false, (⟨#[68]⟩ : ByteArray), (-1)⟩ : S35), (⟨true, (⟨#[68]⟩ : ByteArray), 1⟩ : S35)] : List (S35)) (vA 7 1 0 (⟨#[69]⟩ : ByteArray)) (a.tmps[51]?.getD undef) w' := hs.g 0
        obtain ⟨A51, c51, h51, hc51, hC51, hR51⟩ := g51.reads
        replace h51 : a.tmps[51]?.getD undef = .agg #[.int .i64 7, .int .i64 1, .int .u64 0, .string (⟨#[69]⟩ : ByteArray), .slice A51 ([(⟨false, (⟨#[68]⟩ : ByteArray), (-1)⟩ : S35), (⟨true, (⟨#[68]⟩ : ByteArray), 1⟩ : S35)] : List (S35)).length c51] := h51
        rw [show (#[Operand.tmp 47, Operand.tmp 51] : Array Operand).map a.eval = #[.agg #[.int .i64 t4, .int .i64 t5, .int .u64 t6, .string t7, .slice Au48 t8.length cu48], .agg #[.int .i64 7, .int .i64 1, .int .u64 0, .string (⟨#[69]⟩ : ByteArray), .slice A51 ([(⟨false, (⟨#[68]⟩ : ByteArray), (-1)⟩ : S35), (⟨true, (⟨#[68]⟩ : ByteArray), 1⟩ : S35)] : List (S35)).length c51]] by simp [Act.eval, h47, h51]]
        refine (zaj.calls k t4 t5 t6 t7 Au48 cu48 t8 7 1 0 (⟨#[69]⟩ : ByteArray) A51 c51 ([(⟨false, (⟨#[68]⟩ : ByteArray), (-1)⟩ : S35), (⟨true, (⟨#[68]⟩ : ByteArray), 1⟩ : S35)] : List (S35)) true _ (Kd.zat (Kd.zbu HCu48.out) hr) hcu48 hC51 hc51 F41.out).mono ?_
        rintro e w3 ⟨rfl, hb⟩
        exact ⟨_, rfl, hb, rfl⟩
       refine rgv (.bool true) ?_ ?_
       ·
        intro a w' hr hs
        have h46 := hs.gv 6 rfl rfl
        have h52 := hs.gv 0 rfl rfl
        go_simp
       refine rgv (.bool true) ?_ ?_
       ·
        intro a w' hr hs
        have h53 := hs.gv 0 rfl rfl
        go_simp
       refine zaF (.int .i64 t25) Grows.refl rfl (fun a w hr hs => zax (g := 30) (t := 54) rfl rfl (hs.g 0)) ?_ ?_
       ·
        intro a w' hr hs
        have h5 := hs.ov 5 (.int .i64 t25)
        go_simp
       refine zaF (.bool true) Grows.refl rfl (fun a w hr hs => zax (g := 30) (t := 54) rfl rfl (hs.g 1)) ?_ ?_
       ·
        intro a w' hr hs
        have h55 := hs.gv 0 rfl rfl
        go_simp
       refine rgv (.bool true) ?_ ?_
       ·
        intro a w' hr hs
        have h54 := hs.gv 2 rfl rfl
        have h56 := hs.gv 0 rfl rfl
        go_simp
       refine rgv (.bool true) ?_ ?_
       ·
        intro a w' hr hs
        have h57 := hs.gv 0 rfl rfl
        go_simp
       refine zaF (.agg #[.int .i64 t20, .int .i64 t21, .int .u64 t22, .string t23, .slice Au50 t24.length cu50]) Grows.refl rfl (fun a w hr hs => zax (g := 34) (t := 58) rfl rfl (hs.g 0)) ?_ ?_
       ·
        intro a w' hr hs
        have h4 := hs.ov 4 (.pointer (some ⟨b27_, 0, none⟩))
        have x := hr.at (zcd HXb27.out)
        have x0 := zad x 0
        have x1 := zad x 1
        have x2 := zad x 2
        have x3 := zad x 3
        have x4 := zad x 4
        simp only [ga] at x0 x1 x2 x3 x4
        go_simp
       refine zaF (.agg #[.int .i64 0, .int .i64 0, .int .u64 0, .string (⟨#[]⟩ : ByteArray), .slice none 0 0]) Grows.refl rfl (fun a w hr hs => zax (g := 34) (t := 58) rfl rfl (hs.g 1)) ?_ ?_
       ·
        intro a w' hr hs
        go_simp
       refine zbc (fun v _ => v = .bool t42) (fun _ _ _ _ h => h) rfl rfl Try.func14 k9 rfl (fun a w hr hs => zax (g := 34) (t := 58) rfl rfl (hs.g 2)) ?_ ?_
       ·
        intro a w' hr hs
        have h59 := hs.gv 1 rfl rfl
        have h60 := hs.gv 0 rfl rfl
        rw [show (#[Operand.tmp 59, Operand.tmp 60] : Array Operand).map a.eval = #[.agg #[.int .i64 t20, .int .i64 t21, .int .u64 t22, .string t23, .slice Au50 t24.length cu50], .agg #[.int .i64 0, .int .i64 0, .int .u64 0, .string (⟨#[]⟩ : ByteArray), .slice none 0 0]] by simp [Act.eval, h59, h60]]
        refine (zaj.calls k t20 t21 t22 t23 Au50 cu50 t24 0 0 0 (⟨#[]⟩ : ByteArray) none 0 ([] : List (S35)) t42 _ (Kd.zat (Kd.zbu HCu50.out) hr) hcu50 (Kd.C_nil _ _) (Nat.le_refl _) F43.out).mono ?_
        rintro e w3 ⟨rfl, hb⟩
        exact ⟨_, rfl, hb, rfl⟩
       refine rgv (.bool t42) ?_ ?_
       ·
        intro a w' hr hs
        have h58 := hs.gv 3 rfl rfl
        have h61 := hs.gv 0 rfl rfl
        go_simp
       refine rgv (.bool t42) ?_ ?_
       ·
        intro a w' hr hs
        have h62 := hs.gv 0 rfl rfl
        go_simp
       intro vs w57_ hr hE
       have e39 : vs 39 = .bool t42 := hE _ (zbs 0 rfl)
       have hg : Grows w49_s w57_ := Below.trans (Below.refl w49_s.heap.size w49_s).drew hr
       clear hE hr
       rw [show List.range 40 = [0, 1, 2, 3, 4, 5, 6, 7, 8, 9, 10, 11, 12, 13, 14, 15, 16, 17, 18, 19, 20, 21, 22, 23, 24, 25, 26, 27, 28, 29, 30, 31, 32, 33, 34, 35, 36, 37, 38, 39] from rfl]
       simp only [ps, ga, pa, e39]
       clear e39
       refine zaX ?_
       simp only [Exit.then]
       replace HCu46 := cb HCu46 hg
       replace HRu46 := rb HRu46 hg
       replace HCu48 := cb HCu48 hg
       replace HRu48 := rb HRu48 hg
       replace HCu50 := cb HCu50 hg
       replace HRu50 := rb HRu50 hg
       replace HXb1 := ab HXb1 hg
       replace HXb11 := ab HXb11 hg
       replace HXb27 := ab HXb27 hg
       replace HB := hbm HB hg
       clear hg
       obtain rfl := Option.some.inj h
       go_wp2_with fail
       go_ret
       exact ⟨rfl, HB.out⟩
      ·
       rw [if_neg q56] at h
       cases h
     ·
      rw [if_neg q55] at h
      cases h
    ·
     rw [if_neg q54] at h
     cases h
   ·
    rw [if_neg q53] at h
    cases h
  ·
   rw [if_neg q52] at h
   cases h
 ·
  rw [if_neg q51] at h
  cases h
def zaE.f (k : Nat)  : Option Bool := (zbd.f).bind fun bF2 => (zaG.f k bF2 7 1 0 (⟨#[69]⟩ : ByteArray) ([] : List (S35))).bind fun bF5 => (zaH.f k bF5 ([(⟨(⟨#[120]⟩ : ByteArray), (-1)⟩ : S33), (⟨(⟨#[121]⟩ : ByteArray), (-1)⟩ : S33)] : List (S33))).bind fun bF7 => (if bF7 = true then (zaG.f k bF2 7 1 0 (⟨#[69]⟩ : ByteArray) ([(⟨false, (⟨#[68]⟩ : ByteArray), 1⟩ : S35)] : List (S35))).bind fun bF9 => (zaH.f k bF9 ([(⟨(⟨#[120]⟩ : ByteArray), (-1)⟩ : S33)] : List (S33))).bind fun bF11 => (if bF11 = true then (zaJ.f).bind fun bF17 => (zaG.f k bF2 bF17.1 bF17.2.1 bF17.2.2.1 bF17.2.2.2.1 bF17.2.2.2.2).bind fun bF19 => (if ((bF19.length : Int) == 0) = true then (zaJ.f).bind fun bF25 => (zaJ.f).bind fun bF31 => (zaP.f k bF25.1 bF25.2.1 bF25.2.2.1 bF25.2.2.2.1 bF25.2.2.2.2 (⟨#[105, 110, 116]⟩ : ByteArray) (⟨#[63]⟩ : ByteArray) 1 bF31.1 bF31.2.1 bF31.2.2.1 bF31.2.2.2.1 bF31.2.2.2.2 0).bind fun bF33 => (if bF33 = true then (zaP.f k 6 0 0 (⟨#[]⟩ : ByteArray) ([] : List (S35)) (⟨#[63]⟩ : ByteArray) (⟨#[68]⟩ : ByteArray) 3 6 0 0 (⟨#[]⟩ : ByteArray) ([] : List (S35)) 0).bind fun bF35 => (if bF35 = true then (zaS.f k 7 1 0 (⟨#[68]⟩ : ByteArray) ([] : List (S35)) (⟨#[69]⟩ : ByteArray) 5 0 0 0 (⟨#[]⟩ : ByteArray) ([] : List (S35)) 5).bind fun bF37 => (if bF37 = true then (zaJ.f).bind fun bF43 => (zaS.f k bF43.1 bF43.2.1 bF43.2.2.1 bF43.2.2.2.1 bF43.2.2.2.2 (⟨#[68]⟩ : ByteArray) (-4) 0 0 0 (⟨#[]⟩ : ByteArray) ([] : List (S35)) (-4)).bind fun bF45 => (if bF45 = true then (zaJ.f).bind fun bF51 => (zbz.f k bF2 bF51.1 bF51.2.1 bF51.2.2.1 bF51.2.2.2.1 bF51.2.2.2.2 (⟨#[68]⟩ : ByteArray) 1 false).bind fun bF57 => (zaJ.f).bind fun bF63 => (zaj.f k bF57.1 bF57.2.1 bF57.2.2.1 bF57.2.2.2.1 bF57.2.2.2.2 bF63.1 bF63.2.1 bF63.2.2.1 bF63.2.2.2.1 bF63.2.2.2.2).bind fun bF65 => (zaJ.f).bind fun bF71 => (zbe.f k bF2 7 1 0 (⟨#[67]⟩ : ByteArray) ([(⟨false, (⟨#[67]⟩ : ByteArray), (-1)⟩ : S35), (⟨true, (⟨#[67]⟩ : ByteArray), 1⟩ : S35)] : List (S35)) (⟨#[109]⟩ : ByteArray) 1 bF71.1 bF71.2.1 bF71.2.2.1 bF71.2.2.2.1 bF71.2.2.2.2 false).bind fun bF78 => (zaQ.f k).bind fun bF81 => (if bF81 = true then (if bF65 = true then (if (bF78.2.2.2.2.2 == 0) = true then (zaJ.f).bind fun bF87 => (zaj.f k bF78.1 bF78.2.1 bF78.2.2.1 bF78.2.2.2.1 bF78.2.2.2.2.1 bF87.1 bF87.2.1 bF87.2.2.1 bF87.2.2.2.1 bF87.2.2.2.2).bind fun bF89 => some (bF89) else none) else none) else none) else none) else none) else none) else none) else none) else none) else none)
theorem zaE.mono : ∀  k, LeO (zaE.f k ) (zaE.f (k + 1) ) := by
 intro  k
 unfold zaE.f
 repeat' first
  | (with_reducible exact zaj.mono _ _ _ _ _ _ _ _ _ _ _)
  | (with_reducible exact zaQ.mono _)
  | (with_reducible exact zaP.mono _ _ _ _ _ _ _ _ _ _ _ _ _ _ _)
  | (with_reducible exact zaS.mono _ _ _ _ _ _ _ _ _ _ _ _ _ _)
  | (with_reducible exact zaH.mono _ _ _)
  | (with_reducible exact zbe.mono _ _ _ _ _ _ _ _ _ _ _ _ _ _ _)
  | (with_reducible exact zbz.mono _ _ _ _ _ _ _ _ _ _)
  | (with_reducible exact zaG.mono _ _ _ _ _ _ _)
  | (with_reducible exact LeO.refl _)
  | (with_reducible exact LeO.none _)
  | (with_reducible refine LeO.ite ?_ ?_)
  | (with_reducible refine LeO.bind ?_ (fun _ => ?_))
open Go.Proofs.YtinkbljjpafadaaRF in
theorem zaE.zde (a : ByteArray) (A : Option Addr) (n c : Nat) (w : World) : Calls Try.prog 9 #[.string a, .slice A n c] w fun e w' => e = .returned (.agg #[.int .i64 7, .int .i64 1, .int .u64 0, .string a, .slice A n c]) ∧ Below w.heap.size w w' := by
 have hu27 := Try.underlying27
 go_enter Try.func9, Try.ntmps9
 go_wp2_with fail
 refine bodyPost_ret (results_cell_row rfl _ _ w.heap.size 27 #[.int .i64 7, .int .i64 1, .int .u64 0, .string a, .slice A n c] (0, 0) _ rfl (at_new _ _ rfl) hu27 rfl k9) rfl ?_
 exact ⟨rfl, (Below.refl _ _).alloc (Nat.le_refl _) _⟩
open Go.Proofs.YtinkbljjpafadaaRF Go.Proofs.YtinkbljjpafadaaRG in
theorem zaE.calls (k : Nat)  (r : Bool) (w : World)  (h : zaE.f k  = some r) :
  Calls Try.prog 3 #[] w fun e w' => e = .returned (.bool r) ∧ Below w.heap.size w w' := by
 unfold zaE.f at h
 have hu27 := Try.underlying27
 have hu33 := Try.underlying33
 have hu35 := Try.underlying35
 have HB := zaa.mk (Below.refl w.heap.size w)
 go_enter Try.func3, Try.ntmps3
 refine wp_seq ?_
 refine rgt (N := 84) 1 ?_
 rw [show List.range 1 = [0] from rfl]
 refine rgv (.bool false) ?_ ?_
 ·
  intro a w' hr hs
  go_simp
 intro vs w532_ hr hE
 have e0 : vs 0 = .bool false := hE _ (zbs 0 rfl)
 have hg : Grows w w532_ := hr
 clear hE hr
 rw [show List.range 1 = [0] from rfl]
 simp only [ps, ga, pa, e0]
 clear e0
 have hT : Grows w532_ w532_ := Grows.refl _
 replace hg : Grows w w532_ := hg.trans hT
 clear hT
 refine zaX ?_
 simp only [Exit.then]
 replace HB := hbm HB hg
 clear hg
 refine wp_seq ?_
 replace h := Option.bind_eq_some_iff.1 h
 obtain ⟨t1, F2, h⟩ := h
 try dsimp only at h
 replace F2 := zaa.mk F2
 refine rgt (N := 84) 2 ?_
 rw [show List.range 2 = [0, 1] from rfl]
 refine zbc (OneC k64 t1 (fun u => u)) OneC.grows rfl rfl Try.func6 k9 rfl (fun _ _ _ _ => zae rfl) ?_ ?_
 ·
  intro a w' hr hs
  rw [show (#[] : Array Operand).map a.eval = #[] by simp]
  refine (zbd.calls t1 _ F2.out).mono ?_
  rintro e w3 ⟨v, rfl, hN, hb⟩
  obtain ⟨A9, c9, rfl, hc9, hC9⟩ := Kd.zey hN
  exact ⟨_, rfl, hb, A9, c9, rfl, hc9, hC9⟩
 refine rgv (.agg #[.int .i64 6, .int .i64 0, .int .u64 0, .string (⟨#[]⟩ : ByteArray), .slice none 0 0]) ?_ ?_
 ·
  intro a w' hr hs
  go_simp
 intro vs w533_ hr hE
 have g_ : OneC k64 t1 (fun u => u) (vs 0) w533_ := hE _ (zbs 1 rfl)
 obtain ⟨Au534, cu534, e0, hcu534, hCu534⟩ := g_.reads
 clear g_
 replace e0 : vs 0 = .slice Au534 t1.length cu534 := e0
 have HCu534 := zaa.mk hCu534
 clear hCu534
 have e1 : vs 1 = .agg #[.int .i64 6, .int .i64 0, .int .u64 0, .string (⟨#[]⟩ : ByteArray), .slice none 0 0] := hE _ (zbs 0 rfl)
 have hg : Grows w532_ w533_ := hr
 clear hE hr
 rw [show List.range 2 = [0, 1] from rfl]
 simp only [ps, ga, pa, e0, e1]
 clear e0 e1
 have hT : Grows w533_ w533_ := Grows.refl _
 obtain ⟨w533_a, hw533_a⟩ : ∃ W, W = w533_.alloc (.cells #[.int .i64 0, .int .i64 0, .int .u64 0, .string (⟨#[]⟩ : ByteArray), .slice none 0 0] 27) := ⟨_, rfl⟩
 obtain ⟨b3_, hb3_⟩ : ∃ n, n = w533_.heap.size := ⟨_, rfl⟩
 refine zbv (i := 2) (r := [3, 4]) (w' := w533_a) 2 (.pointer (some ⟨b3_, 0, none⟩)) rfl rfl (zae rfl) (by rw [hw533_a, hb3_]; go_simp) ?_
 simp only [pa]
 have HXb3 : w533_a.heap[b3_]? = some (.cells #[.int .i64 0, .int .i64 0, .int .u64 0, .string (⟨#[]⟩ : ByteArray), .slice none 0 0] 27 (0, 0)) := by rw [hw533_a, hb3_]; exact at_new _ _ rfl
 replace HXb3 := zaa.mk HXb3
 have hlb3 : w533_.heap.size ≤ b3_ := by rw [hb3_]; exact hT.size
 replace hT : Grows w533_ w533_a := by rw [hw533_a]; exact hT.trans (Grows.alloc _ _)
 clear hw533_a hb3_
 have hwb3 : w.heap.size ≤ b3_ := Nat.le_trans (Nat.le_trans HB.out.size hg.size) hlb3
 refine zbv (i := 3) (r := [4]) (w' := w533_a) 1 (.slice Au534 t1.length cu534) rfl rfl (zae rfl) q9 ?_
 simp only [pa]
 have z0 := zad HXb3.out 0
 have f0 := free_at HXb3.out 0
 have z1 := zad HXb3.out 1
 have f1 := free_at HXb3.out 1
 have z2 := zad HXb3.out 2
 have f2 := free_at HXb3.out 2
 have z3 := zad HXb3.out 3
 have f3 := free_at HXb3.out 3
 have z4 := zad HXb3.out 4
 have f4 := free_at HXb3.out 4
 simp only [ga] at z0 z1 z2 z3 z4
 obtain ⟨w533_as, hw533_as⟩ : ∃ W, W = (((((w533_a.setCell ⟨b3_, 0, none⟩ (.int .i64 6)).setCell ⟨b3_, 1, none⟩ (.int .i64 0)).setCell ⟨b3_, 2, none⟩ (.int .u64 0)).setCell ⟨b3_, 3, none⟩ (.string (⟨#[]⟩ : ByteArray))).setCell ⟨b3_, 4, none⟩ (.slice none 0 0)) := ⟨_, rfl⟩
 refine zcT (i := 4) (r := []) (w' := w533_as) rfl rfl (zae rfl) (by rw [hw533_as]; go_simp) ?_
 clear z0 z1 z2 z3 z4 f0 f1 f2 f3 f4
 have hX_ : w533_as.heap[b3_]? = some (.cells #[.int .i64 6, .int .i64 0, .int .u64 0, .string (⟨#[]⟩ : ByteArray), .slice none 0 0] 27 (0, 0)) := by rw [hw533_as]; exact (zaf (zaf (zaf (zaf (zaf HXb3.out 0 (.int .i64 6) rfl) 1 (.int .i64 0) rfl) 2 (.int .u64 0) rfl) 3 (.string (⟨#[]⟩ : ByteArray)) rfl) 4 (.slice none 0 0) rfl)
 replace HXb3 := zaa.mk hX_
 clear hX_
 replace hT : Grows w533_ w533_as := by rw [hw533_as]; exact (setB (setB (setB (setB (setB hT hlb3 (.int .i64 6)) hlb3 (.int .i64 0)) hlb3 (.int .u64 0)) hlb3 (.string (⟨#[]⟩ : ByteArray))) hlb3 (.slice none 0 0))
 clear hw533_as
 replace HCu534 := cb HCu534 hT
 replace hg : Grows w532_ w533_as := hg.trans hT
 clear hT
 refine zaX ?_
 simp only [Exit.then]
 replace HB := hbm HB hg
 clear hg
 refine wp_seq ?_
 replace h := Option.bind_eq_some_iff.1 h
 obtain ⟨t4, F5, h⟩ := h
 try dsimp only at h
 replace F5 := zaa.mk F5
 replace h := Option.bind_eq_some_iff.1 h
 obtain ⟨t6, F7, h⟩ := h
 try dsimp only at h
 replace F7 := zaa.mk F7
 by_cases q535 : t6 = true
 ·
  rw [if_pos q535] at h
  obtain rfl : t6 = true := by simpa using q535
  replace h := Option.bind_eq_some_iff.1 h
  obtain ⟨t8, F9, h⟩ := h
  try dsimp only at h
  replace F9 := zaa.mk F9
  replace h := Option.bind_eq_some_iff.1 h
  obtain ⟨t10, F11, h⟩ := h
  try dsimp only at h
  replace F11 := zaa.mk F11
  by_cases q536 : t10 = true
  ·
   rw [if_pos q536] at h
   obtain rfl : t10 = true := by simpa using q536
   replace h := Option.bind_eq_some_iff.1 h
   obtain ⟨⟨t12, t13, t14, t15, t16⟩, F17, h⟩ := h
   try dsimp only at h
   replace F17 := zaa.mk F17
   replace h := Option.bind_eq_some_iff.1 h
   obtain ⟨t18, F19, h⟩ := h
   try dsimp only at h
   replace F19 := zaa.mk F19
   by_cases q537 : ((t18.length : Int) == 0) = true
   ·
    rw [if_pos q537] at h
    have q537a : ((t18.length : Int) == 0) = true := by simpa using q537
    have q537b : decide ((t18.length : Int) = 0) = true := by simpa using q537
    clear q537
    refine rgt (N := 84) 25 ?_
    rw [show List.range 25 = [0, 1, 2, 3, 4, 5, 6, 7, 8, 9, 10, 11, 12, 13, 14, 15, 16, 17, 18, 19, 20, 21, 22, 23, 24] from rfl]
    refine rgv (.slice Au534 t1.length cu534) ?_ ?_
    ·
     intro a w' hr hs
     have h1 := hs.ov 1 (.slice Au534 t1.length cu534)
     go_simp
    refine rgc (fun v _ => v = .agg #[.int .i64 7, .int .i64 1, .int .u64 0, .string (⟨#[69]⟩ : ByteArray), .slice none 0 0]) Try.func9 ?_ ?_
    ·
     intro a w' hr hs
     rw [show (#[Operand.const (.string (⟨#[69]⟩ : ByteArray)), Operand.const (.slice none 0 0)] : Array Operand).map a.eval = #[.string (⟨#[69]⟩ : ByteArray), .slice none 0 0] by simp [Act.eval]]
     refine (zaE.zde _ _ _ _ _).mono ?_
     rintro e w3 ⟨rfl, hb⟩
     exact ⟨_, rfl, hb, rfl⟩
    refine rgc (OneR k33 33 t4 (fun u => u)) Try.func8 ?_ ?_
    ·
     intro a w' hr hs
     have h9 := hs.gv 1 rfl rfl
     have h10 := hs.gv 0 rfl rfl
     rw [show (#[Operand.tmp 9, Operand.tmp 10] : Array Operand).map a.eval = #[.slice Au534 t1.length cu534, .agg #[.int .i64 7, .int .i64 1, .int .u64 0, .string (⟨#[69]⟩ : ByteArray), .slice none 0 0]] by simp [Act.eval, h9, h10]]
     refine (zaG.calls k Au534 cu534 t1 7 1 0 (⟨#[69]⟩ : ByteArray) none 0 ([] : List (S35)) t4 _ (Kd.zat HCu534.out hr) hcu534 (Kd.C_nil _ _) (Nat.le_refl _) F5.out).mono ?_
     rintro e w3 ⟨v, rfl, hR, hb⟩
     exact ⟨_, rfl, hb, OneR.of hR⟩
    refine rgv (.agg #[.string (⟨#[120]⟩ : ByteArray), .int .i64 (-1)]) ?_ ?_
    ·
     intro a w' hr hs
     go_simp
    refine rgv (.agg #[.string (⟨#[121]⟩ : ByteArray), .int .i64 (-1)]) ?_ ?_
    ·
     intro a w' hr hs
     go_simp
    refine zdc k33 33 ([(⟨(⟨#[120]⟩ : ByteArray), (-1)⟩ : S33), (⟨(⟨#[121]⟩ : ByteArray), (-1)⟩ : S33)] : List (S33)) rfl rfl (fun _ _ _ _ => zae rfl) s9 ?_ ?_
    ·
     intro a w' hr hs
     have h12 := hs.gv 1 rfl rfl
     have h13 := hs.gv 0 rfl rfl
     refine ⟨[.string (⟨#[120]⟩ : ByteArray), .int .i64 (-1), .string (⟨#[121]⟩ : ByteArray), .int .i64 (-1)], by go_simp <;> rfl, ?_⟩
     exact Reps.c2 (show Kd.M k33 _ _ _ (⟨(⟨#[120]⟩ : ByteArray), (-1)⟩ : S33) [.string (⟨#[120]⟩ : ByteArray), .int .i64 (-1)] from zd9 _ _ _ _) (Reps.c2 (show Kd.M k33 _ _ _ (⟨(⟨#[121]⟩ : ByteArray), (-1)⟩ : S33) [.string (⟨#[121]⟩ : ByteArray), .int .i64 (-1)] from zd9 _ _ _ _) (Reps.none _ _))
    refine rgc (fun v _ => v = .bool true) Try.func7 ?_ ?_
    ·
     intro a w' hr hs
     have g11 : OneR k33 33 t4 (fun u => u) (a.tmps[11]?.getD undef) w' := hs.g 3
     obtain ⟨A11, c11, h11, hc11, hC11, hR11⟩ := g11.reads
     replace h11 : a.tmps[11]?.getD undef = .slice A11 t4.length c11 := h11
     have g14 : OneR k33 33 ([(⟨(⟨#[120]⟩ : ByteArray), (-1)⟩ : S33), (⟨(⟨#[121]⟩ : ByteArray), (-1)⟩ : S33)] : List (S33)) (fun u => u) (a.tmps[14]?.getD undef) w' := hs.g 0
     obtain ⟨A14, c14, h14, hc14, hC14, hR14⟩ := g14.reads
     replace h14 : a.tmps[14]?.getD undef = .slice A14 ([(⟨(⟨#[120]⟩ : ByteArray), (-1)⟩ : S33), (⟨(⟨#[121]⟩ : ByteArray), (-1)⟩ : S33)] : List (S33)).length c14 := h14
     rw [show (#[Operand.tmp 11, Operand.tmp 14] : Array Operand).map a.eval = #[.slice A11 t4.length c11, .slice A14 ([(⟨(⟨#[120]⟩ : ByteArray), (-1)⟩ : S33), (⟨(⟨#[121]⟩ : ByteArray), (-1)⟩ : S33)] : List (S33)).length c14] by simp [Act.eval, h11, h14]]
     refine (zaH.calls k A11 c11 t4 A14 c14 ([(⟨(⟨#[120]⟩ : ByteArray), (-1)⟩ : S33), (⟨(⟨#[121]⟩ : ByteArray), (-1)⟩ : S33)] : List (S33)) true _ hC11 hc11 hC14 hc14 F7.out).mono ?_
     rintro e w3 ⟨rfl, hb⟩
     exact ⟨_, rfl, hb.below, rfl⟩
    refine rgv (.bool true) ?_ ?_
    ·
     intro a w' hr hs
     have h15 := hs.gv 0 rfl rfl
     go_simp
    refine zaF (.slice Au534 t1.length cu534) Grows.refl rfl (fun a w hr hs => zax (g := 7) (t := 16) rfl rfl (hs.g 0)) ?_ ?_
    ·
     intro a w' hr hs
     have h1 := hs.ov 1 (.slice Au534 t1.length cu534)
     go_simp
    refine zbc (fun v _ => v = .agg #[.bool false, .string (⟨#[68]⟩ : ByteArray), .int .i64 1]) (fun _ _ _ _ h => h) rfl rfl Try.func10 k9 rfl (fun a w hr hs => zax (g := 7) (t := 16) rfl rfl (hs.g 1)) ?_ ?_
    ·
     intro a w' hr hs
     rw [show (#[Operand.const (.string (⟨#[68]⟩ : ByteArray)), Operand.const (.int .i64 1)] : Array Operand).map a.eval = #[.string (⟨#[68]⟩ : ByteArray), .int .i64 1] by simp [Act.eval]]
     refine (zbF.calls (⟨#[68]⟩ : ByteArray) 1 false (⟨#[68]⟩ : ByteArray) 1 _ rfl).mono ?_
     rintro e w3 ⟨rfl, hb⟩
     exact ⟨_, rfl, hb, rfl⟩
    refine zdc k35 35 ([(⟨false, (⟨#[68]⟩ : ByteArray), 1⟩ : S35)] : List (S35)) rfl rfl (fun a w hr hs => zax (g := 7) (t := 16) rfl rfl (hs.g 2)) s9 ?_ ?_
    ·
     intro a w' hr hs
     have h18 := hs.gv 0 rfl rfl
     refine ⟨[.bool false, .string (⟨#[68]⟩ : ByteArray), .int .i64 1], by go_simp <;> rfl, ?_⟩
     exact Reps.c3 (show Kd.M k35 _ _ _ (⟨false, (⟨#[68]⟩ : ByteArray), 1⟩ : S35) [.bool false, .string (⟨#[68]⟩ : ByteArray), .int .i64 1] from zce _ _ _ _) (Reps.none _ _)
    refine zbc (OneR k35 35 ([(⟨false, (⟨#[68]⟩ : ByteArray), 1⟩ : S35)] : List (S35)) (vA 7 1 0 (⟨#[69]⟩ : ByteArray))) OneR.grows rfl rfl Try.func9 k9 rfl (fun a w hr hs => zax (g := 7) (t := 16) rfl rfl (hs.g 3)) ?_ ?_
    ·
     intro a w' hr hs
     have g19 : OneR k35 35 ([(⟨false, (⟨#[68]⟩ : ByteArray), 1⟩ : S35)] : List (S35)) (fun u => u) (a.tmps[19]?.getD undef) w' := hs.g 0
     obtain ⟨A19, c19, h19, hc19, hC19, hR19⟩ := g19.reads
     replace h19 : a.tmps[19]?.getD undef = .slice A19 ([(⟨false, (⟨#[68]⟩ : ByteArray), 1⟩ : S35)] : List (S35)).length c19 := h19
     rw [show (#[Operand.const (.string (⟨#[69]⟩ : ByteArray)), Operand.tmp 19] : Array Operand).map a.eval = #[.string (⟨#[69]⟩ : ByteArray), .slice A19 ([(⟨false, (⟨#[68]⟩ : ByteArray), 1⟩ : S35)] : List (S35)).length c19] by simp [Act.eval, h19]]
     refine (zaE.zde _ _ _ _ _).mono ?_
     rintro e w3 ⟨rfl, hb⟩
     exact ⟨_, rfl, hb, _, rfl, Kd.zbC hR19 hb⟩
    refine zbc (OneR k33 33 t8 (fun u => u)) OneR.grows rfl rfl Try.func8 k9 rfl (fun a w hr hs => zax (g := 7) (t := 16) rfl rfl (hs.g 4)) ?_ ?_
    ·
     intro a w' hr hs
     have h17 := hs.gv 3 rfl rfl
     have g20 : OneR k35 35 ([(⟨false, (⟨#[68]⟩ : ByteArray), 1⟩ : S35)] : List (S35)) (vA 7 1 0 (⟨#[69]⟩ : ByteArray)) (a.tmps[20]?.getD undef) w' := hs.g 0
     obtain ⟨A20, c20, h20, hc20, hC20, hR20⟩ := g20.reads
     replace h20 : a.tmps[20]?.getD undef = .agg #[.int .i64 7, .int .i64 1, .int .u64 0, .string (⟨#[69]⟩ : ByteArray), .slice A20 ([(⟨false, (⟨#[68]⟩ : ByteArray), 1⟩ : S35)] : List (S35)).length c20] := h20
     rw [show (#[Operand.tmp 17, Operand.tmp 20] : Array Operand).map a.eval = #[.slice Au534 t1.length cu534, .agg #[.int .i64 7, .int .i64 1, .int .u64 0, .string (⟨#[69]⟩ : ByteArray), .slice A20 ([(⟨false, (⟨#[68]⟩ : ByteArray), 1⟩ : S35)] : List (S35)).length c20]] by simp [Act.eval, h17, h20]]
     refine (zaG.calls k Au534 cu534 t1 7 1 0 (⟨#[69]⟩ : ByteArray) A20 c20 ([(⟨false, (⟨#[68]⟩ : ByteArray), 1⟩ : S35)] : List (S35)) t8 _ (Kd.zat HCu534.out hr) hcu534 hC20 hc20 F9.out).mono ?_
     rintro e w3 ⟨v, rfl, hR, hb⟩
     exact ⟨_, rfl, hb, OneR.of hR⟩
    refine zaF (.agg #[.string (⟨#[120]⟩ : ByteArray), .int .i64 (-1)]) Grows.refl rfl (fun a w hr hs => zax (g := 7) (t := 16) rfl rfl (hs.g 5)) ?_ ?_
    ·
     intro a w' hr hs
     go_simp
    refine zdc k33 33 ([(⟨(⟨#[120]⟩ : ByteArray), (-1)⟩ : S33)] : List (S33)) rfl rfl (fun a w hr hs => zax (g := 7) (t := 16) rfl rfl (hs.g 6)) s9 ?_ ?_
    ·
     intro a w' hr hs
     have h22 := hs.gv 0 rfl rfl
     refine ⟨[.string (⟨#[120]⟩ : ByteArray), .int .i64 (-1)], by go_simp <;> rfl, ?_⟩
     exact Reps.c2 (show Kd.M k33 _ _ _ (⟨(⟨#[120]⟩ : ByteArray), (-1)⟩ : S33) [.string (⟨#[120]⟩ : ByteArray), .int .i64 (-1)] from zd9 _ _ _ _) (Reps.none _ _)
    refine zbc (fun v _ => v = .bool true) (fun _ _ _ _ h => h) rfl rfl Try.func7 k9 rfl (fun a w hr hs => zax (g := 7) (t := 16) rfl rfl (hs.g 7)) ?_ ?_
    ·
     intro a w' hr hs
     have g21 : OneR k33 33 t8 (fun u => u) (a.tmps[21]?.getD undef) w' := hs.g 2
     obtain ⟨A21, c21, h21, hc21, hC21, hR21⟩ := g21.reads
     replace h21 : a.tmps[21]?.getD undef = .slice A21 t8.length c21 := h21
     have g23 : OneR k33 33 ([(⟨(⟨#[120]⟩ : ByteArray), (-1)⟩ : S33)] : List (S33)) (fun u => u) (a.tmps[23]?.getD undef) w' := hs.g 0
     obtain ⟨A23, c23, h23, hc23, hC23, hR23⟩ := g23.reads
     replace h23 : a.tmps[23]?.getD undef = .slice A23 ([(⟨(⟨#[120]⟩ : ByteArray), (-1)⟩ : S33)] : List (S33)).length c23 := h23
     rw [show (#[Operand.tmp 21, Operand.tmp 23] : Array Operand).map a.eval = #[.slice A21 t8.length c21, .slice A23 ([(⟨(⟨#[120]⟩ : ByteArray), (-1)⟩ : S33)] : List (S33)).length c23] by simp [Act.eval, h21, h23]]
     refine (zaH.calls k A21 c21 t8 A23 c23 ([(⟨(⟨#[120]⟩ : ByteArray), (-1)⟩ : S33)] : List (S33)) true _ hC21 hc21 hC23 hc23 F11.out).mono ?_
     rintro e w3 ⟨rfl, hb⟩
     exact ⟨_, rfl, hb.below, rfl⟩
    refine rgv (.bool true) ?_ ?_
    ·
     intro a w' hr hs
     have h16 := hs.gv 8 rfl rfl
     have h24 := hs.gv 0 rfl rfl
     go_simp
    refine rgv (.bool true) ?_ ?_
    ·
     intro a w' hr hs
     have h25 := hs.gv 0 rfl rfl
     go_simp
    refine zaF (.slice Au534 t1.length cu534) Grows.refl rfl (fun a w hr hs => zax (g := 17) (t := 26) rfl rfl (hs.g 0)) ?_ ?_
    ·
     intro a w' hr hs
     have h1 := hs.ov 1 (.slice Au534 t1.length cu534)
     go_simp
    refine zbc (OneR k35 35 t16 (vA t12 t13 t14 t15)) OneR.grows rfl rfl Try.func11 k9 rfl (fun a w hr hs => zax (g := 17) (t := 26) rfl rfl (hs.g 1)) ?_ ?_
    ·
     intro a w' hr hs
     rw [show (#[] : Array Operand).map a.eval = #[] by simp]
     refine (zaJ.calls t12 t13 t14 t15 t16 _ F17.out).mono ?_
     rintro e w3 ⟨v, rfl, hR, hb⟩
     exact ⟨_, rfl, hb, OneR.of hR⟩
    refine zbc (OneR k33 33 t18 (fun u => u)) OneR.grows rfl rfl Try.func8 k9 rfl (fun a w hr hs => zax (g := 17) (t := 26) rfl rfl (hs.g 2)) ?_ ?_
    ·
     intro a w' hr hs
     have h27 := hs.gv 1 rfl rfl
     obtain ⟨A28, c28, h28, hc28, hC28, hR28⟩ := hs.rd 0 rfl rfl
     simp only [vA] at h28
     rw [show (#[Operand.tmp 27, Operand.tmp 28] : Array Operand).map a.eval = #[.slice Au534 t1.length cu534, .agg #[.int .i64 t12, .int .i64 t13, .int .u64 t14, .string t15, .slice A28 t16.length c28]] by simp [Act.eval, h27, h28]]
     refine (zaG.calls k Au534 cu534 t1 t12 t13 t14 t15 A28 c28 t16 t18 _ (Kd.zat HCu534.out hr) hcu534 hC28 hc28 F19.out).mono ?_
     rintro e w3 ⟨v, rfl, hR, hb⟩
     exact ⟨_, rfl, hb, OneR.of hR⟩
    refine zaF (.int .i64 (t18.length : Int)) Grows.refl rfl (fun a w hr hs => zax (g := 17) (t := 26) rfl rfl (hs.g 3)) ?_ ?_
    ·
     intro a w' hr hs
     have g29 : OneR k33 33 t18 (fun u => u) (a.tmps[29]?.getD undef) w' := hs.g 0
     obtain ⟨A29, c29, h29, hc29, hC29, hR29⟩ := g29.reads
     replace h29 : a.tmps[29]?.getD undef = .slice A29 t18.length c29 := h29
     go_simp
    refine zaF (.bool true) Grows.refl rfl (fun a w hr hs => zax (g := 17) (t := 26) rfl rfl (hs.g 4)) ?_ ?_
    ·
     intro a w' hr hs
     have h30 := hs.gv 0 rfl rfl
     go_simp
    refine rgv (.bool true) ?_ ?_
    ·
     intro a w' hr hs
     have h26 := hs.gv 5 rfl rfl
     have h31 := hs.gv 0 rfl rfl
     go_simp
    refine rgv (.bool true) ?_ ?_
    ·
     intro a w' hr hs
     have h32 := hs.gv 0 rfl rfl
     go_simp
    intro vs w538_ hr hE
    have e24 : vs 24 = .bool true := hE _ (zbs 0 rfl)
    have hg : Grows w533_as w538_ := hr
    clear hE hr
    rw [show List.range 25 = [0, 1, 2, 3, 4, 5, 6, 7, 8, 9, 10, 11, 12, 13, 14, 15, 16, 17, 18, 19, 20, 21, 22, 23, 24] from rfl]
    simp only [ps, ga, pa, e24]
    clear e24
    have hT : Grows w538_ w538_ := Grows.refl _
    replace hg : Grows w533_as w538_ := hg.trans hT
    clear hT
    refine zaX ?_
    simp only [Exit.then]
    replace HCu534 := cb HCu534 hg
    replace HXb3 := ab HXb3 hg
    replace HB := hbm HB hg
    clear hg
    refine wp_seq ?_
    replace h := Option.bind_eq_some_iff.1 h
    obtain ⟨⟨t20, t21, t22, t23, t24⟩, F25, h⟩ := h
    try dsimp only at h
    replace F25 := zaa.mk F25
    replace h := Option.bind_eq_some_iff.1 h
    obtain ⟨⟨t26, t27, t28, t29, t30⟩, F31, h⟩ := h
    try dsimp only at h
    replace F31 := zaa.mk F31
    replace h := Option.bind_eq_some_iff.1 h
    obtain ⟨t32, F33, h⟩ := h
    try dsimp only at h
    replace F33 := zaa.mk F33
    by_cases q539 : t32 = true
    ·
     rw [if_pos q539] at h
     obtain rfl : t32 = true := by simpa using q539
     replace h := Option.bind_eq_some_iff.1 h
     obtain ⟨t34, F35, h⟩ := h
     try dsimp only at h
     replace F35 := zaa.mk F35
     by_cases q540 : t34 = true
     ·
      rw [if_pos q540] at h
      obtain rfl : t34 = true := by simpa using q540
      replace h := Option.bind_eq_some_iff.1 h
      obtain ⟨t36, F37, h⟩ := h
      try dsimp only at h
      replace F37 := zaa.mk F37
      by_cases q541 : t36 = true
      ·
       rw [if_pos q541] at h
       obtain rfl : t36 = true := by simpa using q541
       replace h := Option.bind_eq_some_iff.1 h
       obtain ⟨⟨t38, t39, t40, t41, t42⟩, F43, h⟩ := h
       try dsimp only at h
       replace F43 := zaa.mk F43
       replace h := Option.bind_eq_some_iff.1 h
       obtain ⟨t44, F45, h⟩ := h
       try dsimp only at h
       replace F45 := zaa.mk F45
       by_cases q542 : t44 = true
       ·
        rw [if_pos q542] at h
        obtain rfl : t44 = true := by simpa using q542
        replace h := Option.bind_eq_some_iff.1 h
        obtain ⟨⟨t46, t47, t48, t49, t50⟩, F51, h⟩ := h
        try dsimp only at h
        replace F51 := zaa.mk F51
        replace h := Option.bind_eq_some_iff.1 h
        obtain ⟨⟨t52, t53, t54, t55, t56⟩, F57, h⟩ := h
        try dsimp only at h
        replace F57 := zaa.mk F57
        replace h := Option.bind_eq_some_iff.1 h
        obtain ⟨⟨t58, t59, t60, t61, t62⟩, F63, h⟩ := h
        try dsimp only at h
        replace F63 := zaa.mk F63
        replace h := Option.bind_eq_some_iff.1 h
        obtain ⟨t64, F65, h⟩ := h
        try dsimp only at h
        replace F65 := zaa.mk F65
        refine rgt (N := 84) 26 ?_
        rw [show List.range 26 = [0, 1, 2, 3, 4, 5, 6, 7, 8, 9, 10, 11, 12, 13, 14, 15, 16, 17, 18, 19, 20, 21, 22, 23, 24, 25] from rfl]
        refine rgc (OneR k35 35 t24 (vA t20 t21 t22 t23)) Try.func11 ?_ ?_
        ·
         intro a w' hr hs
         rw [show (#[] : Array Operand).map a.eval = #[] by simp]
         refine (zaJ.calls t20 t21 t22 t23 t24 _ F25.out).mono ?_
         rintro e w3 ⟨v, rfl, hR, hb⟩
         exact ⟨_, rfl, hb, OneR.of hR⟩
        refine rgc (OneR k35 35 t30 (vA t26 t27 t28 t29)) Try.func11 ?_ ?_
        ·
         intro a w' hr hs
         rw [show (#[] : Array Operand).map a.eval = #[] by simp]
         refine (zaJ.calls t26 t27 t28 t29 t30 _ F31.out).mono ?_
         rintro e w3 ⟨v, rfl, hR, hb⟩
         exact ⟨_, rfl, hb, OneR.of hR⟩
        refine rgc (fun v _ => v = .bool true) Try.func12 ?_ ?_
        ·
         intro a w' hr hs
         obtain ⟨A33, c33, h33, hc33, hC33, hR33⟩ := hs.rd 1 rfl rfl
         simp only [vA] at h33
         obtain ⟨A34, c34, h34, hc34, hC34, hR34⟩ := hs.rd 0 rfl rfl
         simp only [vA] at h34
         rw [show (#[Operand.tmp 33, Operand.const (.string (⟨#[105, 110, 116]⟩ : ByteArray)), Operand.const (.string (⟨#[63]⟩ : ByteArray)), Operand.const (.int .i64 1), Operand.tmp 34, Operand.const (.int .i64 0)] : Array Operand).map a.eval = #[.agg #[.int .i64 t20, .int .i64 t21, .int .u64 t22, .string t23, .slice A33 t24.length c33], .string (⟨#[105, 110, 116]⟩ : ByteArray), .string (⟨#[63]⟩ : ByteArray), .int .i64 1, .agg #[.int .i64 t26, .int .i64 t27, .int .u64 t28, .string t29, .slice A34 t30.length c34], .int .i64 0] by simp [Act.eval, h33, h34]]
         refine (zaP.calls k t20 t21 t22 t23 A33 c33 t24 (⟨#[105, 110, 116]⟩ : ByteArray) (⟨#[63]⟩ : ByteArray) 1 t26 t27 t28 t29 A34 c34 t30 0 true _ hC33 hc33 hC34 hc34 F33.out).mono ?_
         rintro e w3 ⟨rfl, hb⟩
         exact ⟨_, rfl, hb, rfl⟩
        refine rgv (.bool true) ?_ ?_
        ·
         intro a w' hr hs
         have h35 := hs.gv 0 rfl rfl
         go_simp
        refine zaF (.agg #[.int .i64 6, .int .i64 0, .int .u64 0, .string (⟨#[]⟩ : ByteArray), .slice none 0 0]) Grows.refl rfl (fun a w hr hs => zax (g := 3) (t := 36) rfl rfl (hs.g 0)) ?_ ?_
        ·
         intro a w' hr hs
         have h2 := hs.ov 2 (.pointer (some ⟨b3_, 0, none⟩))
         have x := hr.at HXb3.out
         have x0 := zad x 0
         have x1 := zad x 1
         have x2 := zad x 2
         have x3 := zad x 3
         have x4 := zad x 4
         simp only [ga] at x0 x1 x2 x3 x4
         go_simp
        refine zaF (.agg #[.int .i64 6, .int .i64 0, .int .u64 0, .string (⟨#[]⟩ : ByteArray), .slice none 0 0]) Grows.refl rfl (fun a w hr hs => zax (g := 3) (t := 36) rfl rfl (hs.g 1)) ?_ ?_
        ·
         intro a w' hr hs
         have h2 := hs.ov 2 (.pointer (some ⟨b3_, 0, none⟩))
         have x := hr.at HXb3.out
         have x0 := zad x 0
         have x1 := zad x 1
         have x2 := zad x 2
         have x3 := zad x 3
         have x4 := zad x 4
         simp only [ga] at x0 x1 x2 x3 x4
         go_simp
        refine zbc (fun v _ => v = .bool true) (fun _ _ _ _ h => h) rfl rfl Try.func12 k9 rfl (fun a w hr hs => zax (g := 3) (t := 36) rfl rfl (hs.g 2)) ?_ ?_
        ·
         intro a w' hr hs
         have h37 := hs.gv 1 rfl rfl
         have h38 := hs.gv 0 rfl rfl
         rw [show (#[Operand.tmp 37, Operand.const (.string (⟨#[63]⟩ : ByteArray)), Operand.const (.string (⟨#[68]⟩ : ByteArray)), Operand.const (.int .i64 3), Operand.tmp 38, Operand.const (.int .i64 0)] : Array Operand).map a.eval = #[.agg #[.int .i64 6, .int .i64 0, .int .u64 0, .string (⟨#[]⟩ : ByteArray), .slice none 0 0], .string (⟨#[63]⟩ : ByteArray), .string (⟨#[68]⟩ : ByteArray), .int .i64 3, .agg #[.int .i64 6, .int .i64 0, .int .u64 0, .string (⟨#[]⟩ : ByteArray), .slice none 0 0], .int .i64 0] by simp [Act.eval, h37, h38]]
         refine (zaP.calls k 6 0 0 (⟨#[]⟩ : ByteArray) none 0 ([] : List (S35)) (⟨#[63]⟩ : ByteArray) (⟨#[68]⟩ : ByteArray) 3 6 0 0 (⟨#[]⟩ : ByteArray) none 0 ([] : List (S35)) 0 true _ (Kd.C_nil _ _) (Nat.le_refl _) (Kd.C_nil _ _) (Nat.le_refl _) F35.out).mono ?_
         rintro e w3 ⟨rfl, hb⟩
         exact ⟨_, rfl, hb, rfl⟩
        refine rgv (.bool true) ?_ ?_
        ·
         intro a w' hr hs
         have h36 := hs.gv 3 rfl rfl
         have h39 := hs.gv 0 rfl rfl
         go_simp
        refine rgv (.bool true) ?_ ?_
        ·
         intro a w' hr hs
         have h40 := hs.gv 0 rfl rfl
         go_simp
        refine zbc (fun v _ => v = .agg #[.int .i64 7, .int .i64 1, .int .u64 0, .string (⟨#[68]⟩ : ByteArray), .slice none 0 0]) (fun _ _ _ _ h => h) rfl rfl Try.func9 k9 rfl (fun a w hr hs => zax (g := 8) (t := 41) rfl rfl (hs.g 0)) ?_ ?_
        ·
         intro a w' hr hs
         rw [show (#[Operand.const (.string (⟨#[68]⟩ : ByteArray)), Operand.const (.slice none 0 0)] : Array Operand).map a.eval = #[.string (⟨#[68]⟩ : ByteArray), .slice none 0 0] by simp [Act.eval]]
         refine (zaE.zde _ _ _ _ _).mono ?_
         rintro e w3 ⟨rfl, hb⟩
         exact ⟨_, rfl, hb, rfl⟩
        refine zaF (.agg #[.int .i64 0, .int .i64 0, .int .u64 0, .string (⟨#[]⟩ : ByteArray), .slice none 0 0]) Grows.refl rfl (fun a w hr hs => zax (g := 8) (t := 41) rfl rfl (hs.g 1)) ?_ ?_
        ·
         intro a w' hr hs
         go_simp
        refine zbc (fun v _ => v = .bool true) (fun _ _ _ _ h => h) rfl rfl Try.func13 k9 rfl (fun a w hr hs => zax (g := 8) (t := 41) rfl rfl (hs.g 2)) ?_ ?_
        ·
         intro a w' hr hs
         have h42 := hs.gv 1 rfl rfl
         have h43 := hs.gv 0 rfl rfl
         rw [show (#[Operand.tmp 42, Operand.const (.string (⟨#[69]⟩ : ByteArray)), Operand.const (.int .i64 5), Operand.tmp 43, Operand.const (.int .i64 5)] : Array Operand).map a.eval = #[.agg #[.int .i64 7, .int .i64 1, .int .u64 0, .string (⟨#[68]⟩ : ByteArray), .slice none 0 0], .string (⟨#[69]⟩ : ByteArray), .int .i64 5, .agg #[.int .i64 0, .int .i64 0, .int .u64 0, .string (⟨#[]⟩ : ByteArray), .slice none 0 0], .int .i64 5] by simp [Act.eval, h42, h43]]
         refine (zaS.calls k 7 1 0 (⟨#[68]⟩ : ByteArray) none 0 ([] : List (S35)) (⟨#[69]⟩ : ByteArray) 5 0 0 0 (⟨#[]⟩ : ByteArray) none 0 ([] : List (S35)) 5 true _ (Kd.C_nil _ _) (Nat.le_refl _) (Kd.C_nil _ _) (Nat.le_refl _) F37.out).mono ?_
         rintro e w3 ⟨rfl, hb⟩
         exact ⟨_, rfl, hb, rfl⟩
        refine rgv (.bool true) ?_ ?_
        ·
         intro a w' hr hs
         have h41 := hs.gv 3 rfl rfl
         have h44 := hs.gv 0 rfl rfl
         go_simp
        refine rgv (.bool true) ?_ ?_
        ·
         intro a w' hr hs
         have h45 := hs.gv 0 rfl rfl
         go_simp
        refine zbc (OneR k35 35 t42 (vA t38 t39 t40 t41)) OneR.grows rfl rfl Try.func11 k9 rfl (fun a w hr hs => zax (g := 13) (t := 46) rfl rfl (hs.g 0)) ?_ ?_
        ·
         intro a w' hr hs
         rw [show (#[] : Array Operand).map a.eval = #[] by simp]
         refine (zaJ.calls t38 t39 t40 t41 t42 _ F43.out).mono ?_
         rintro e w3 ⟨v, rfl, hR, hb⟩
         exact ⟨_, rfl, hb, OneR.of hR⟩
        refine zaF (.agg #[.int .i64 0, .int .i64 0, .int .u64 0, .string (⟨#[]⟩ : ByteArray), .slice none 0 0]) Grows.refl rfl (fun a w hr hs => zax (g := 13) (t := 46) rfl rfl (hs.g 1)) ?_ ?_
        ·
         intro a w' hr hs
         go_simp
        refine zbc (fun v _ => v = .bool true) (fun _ _ _ _ h => h) rfl rfl Try.func13 k9 rfl (fun a w hr hs => zax (g := 13) (t := 46) rfl rfl (hs.g 2)) ?_ ?_
        ·
         intro a w' hr hs
         obtain ⟨A47, c47, h47, hc47, hC47, hR47⟩ := hs.rd 1 rfl rfl
         simp only [vA] at h47
         have h48 := hs.gv 0 rfl rfl
         rw [show (#[Operand.tmp 47, Operand.const (.string (⟨#[68]⟩ : ByteArray)), Operand.const (.int .i64 (-4)), Operand.tmp 48, Operand.const (.int .i64 (-4))] : Array Operand).map a.eval = #[.agg #[.int .i64 t38, .int .i64 t39, .int .u64 t40, .string t41, .slice A47 t42.length c47], .string (⟨#[68]⟩ : ByteArray), .int .i64 (-4), .agg #[.int .i64 0, .int .i64 0, .int .u64 0, .string (⟨#[]⟩ : ByteArray), .slice none 0 0], .int .i64 (-4)] by simp [Act.eval, h47, h48]]
         refine (zaS.calls k t38 t39 t40 t41 A47 c47 t42 (⟨#[68]⟩ : ByteArray) (-4) 0 0 0 (⟨#[]⟩ : ByteArray) none 0 ([] : List (S35)) (-4) true _ hC47 hc47 (Kd.C_nil _ _) (Nat.le_refl _) F45.out).mono ?_
         rintro e w3 ⟨rfl, hb⟩
         exact ⟨_, rfl, hb, rfl⟩
        refine rgv (.bool true) ?_ ?_
        ·
         intro a w' hr hs
         have h46 := hs.gv 3 rfl rfl
         have h49 := hs.gv 0 rfl rfl
         go_simp
        refine rgv (.bool true) ?_ ?_
        ·
         intro a w' hr hs
         have h50 := hs.gv 0 rfl rfl
         go_simp
        refine zaF (.slice Au534 t1.length cu534) Grows.refl rfl (fun a w hr hs => zax (g := 18) (t := 51) rfl rfl (hs.g 0)) ?_ ?_
        ·
         intro a w' hr hs
         have h1 := hs.ov 1 (.slice Au534 t1.length cu534)
         go_simp
        refine zbc (OneR k35 35 t50 (vA t46 t47 t48 t49)) OneR.grows rfl rfl Try.func11 k9 rfl (fun a w hr hs => zax (g := 18) (t := 51) rfl rfl (hs.g 1)) ?_ ?_
        ·
         intro a w' hr hs
         rw [show (#[] : Array Operand).map a.eval = #[] by simp]
         refine (zaJ.calls t46 t47 t48 t49 t50 _ F51.out).mono ?_
         rintro e w3 ⟨v, rfl, hR, hb⟩
         exact ⟨_, rfl, hb, OneR.of hR⟩
        refine zbc (OneR k35 35 t56 (vA t52 t53 t54 t55)) OneR.grows rfl rfl Try.func15 k9 rfl (fun a w hr hs => zax (g := 18) (t := 51) rfl rfl (hs.g 2)) ?_ ?_
        ·
         intro a w' hr hs
         have h52 := hs.gv 1 rfl rfl
         obtain ⟨A53, c53, h53, hc53, hC53, hR53⟩ := hs.rd 0 rfl rfl
         simp only [vA] at h53
         rw [show (#[Operand.tmp 52, Operand.tmp 53, Operand.const (.string (⟨#[68]⟩ : ByteArray)), Operand.const (.int .i64 1), Operand.const (.bool false)] : Array Operand).map a.eval = #[.slice Au534 t1.length cu534, .agg #[.int .i64 t46, .int .i64 t47, .int .u64 t48, .string t49, .slice A53 t50.length c53], .string (⟨#[68]⟩ : ByteArray), .int .i64 1, .bool false] by simp [Act.eval, h52, h53]]
         refine (zbz.calls k Au534 cu534 t1 t46 t47 t48 t49 A53 c53 t50 (⟨#[68]⟩ : ByteArray) 1 false t52 t53 t54 t55 t56 _ (Kd.zat HCu534.out hr) hcu534 hC53 hc53 F57.out).mono ?_
         rintro e w3 ⟨v, rfl, hR, hb⟩
         exact ⟨_, rfl, hb, OneR.of hR⟩
        refine zbc (OneR k35 35 t62 (vA t58 t59 t60 t61)) OneR.grows rfl rfl Try.func11 k9 rfl (fun a w hr hs => zax (g := 18) (t := 51) rfl rfl (hs.g 3)) ?_ ?_
        ·
         intro a w' hr hs
         rw [show (#[] : Array Operand).map a.eval = #[] by simp]
         refine (zaJ.calls t58 t59 t60 t61 t62 _ F63.out).mono ?_
         rintro e w3 ⟨v, rfl, hR, hb⟩
         exact ⟨_, rfl, hb, OneR.of hR⟩
        refine zbc (fun v _ => v = .bool t64) (fun _ _ _ _ h => h) rfl rfl Try.func14 k9 rfl (fun a w hr hs => zax (g := 18) (t := 51) rfl rfl (hs.g 4)) ?_ ?_
        ·
         intro a w' hr hs
         obtain ⟨A54, c54, h54, hc54, hC54, hR54⟩ := hs.rd 1 rfl rfl
         simp only [vA] at h54
         obtain ⟨A55, c55, h55, hc55, hC55, hR55⟩ := hs.rd 0 rfl rfl
         simp only [vA] at h55
         rw [show (#[Operand.tmp 54, Operand.tmp 55] : Array Operand).map a.eval = #[.agg #[.int .i64 t52, .int .i64 t53, .int .u64 t54, .string t55, .slice A54 t56.length c54], .agg #[.int .i64 t58, .int .i64 t59, .int .u64 t60, .string t61, .slice A55 t62.length c55]] by simp [Act.eval, h54, h55]]
         refine (zaj.calls k t52 t53 t54 t55 A54 c54 t56 t58 t59 t60 t61 A55 c55 t62 t64 _ hC54 hc54 hC55 hc55 F65.out).mono ?_
         rintro e w3 ⟨rfl, hb⟩
         exact ⟨_, rfl, hb, rfl⟩
        refine rgv (.bool t64) ?_ ?_
        ·
         intro a w' hr hs
         have h51 := hs.gv 5 rfl rfl
         have h56 := hs.gv 0 rfl rfl
         go_simp
        refine rgv (.bool t64) ?_ ?_
        ·
         intro a w' hr hs
         have h57 := hs.gv 0 rfl rfl
         go_simp
        intro vs w543_ hr hE
        have e25 : vs 25 = .bool t64 := hE _ (zbs 0 rfl)
        have hg : Grows w538_ w543_ := hr
        clear hE hr
        rw [show List.range 26 = [0, 1, 2, 3, 4, 5, 6, 7, 8, 9, 10, 11, 12, 13, 14, 15, 16, 17, 18, 19, 20, 21, 22, 23, 24, 25] from rfl]
        simp only [ps, ga, pa, e25]
        clear e25
        have hT : Grows w543_ w543_ := Grows.refl _
        replace hg : Grows w538_ w543_ := hg.trans hT
        clear hT
        refine zaX ?_
        simp only [Exit.then]
        replace HCu534 := cb HCu534 hg
        replace HXb3 := ab HXb3 hg
        replace HB := hbm HB hg
        clear hg
        refine wp_seq ?_
        replace h := Option.bind_eq_some_iff.1 h
        obtain ⟨⟨t66, t67, t68, t69, t70⟩, F71, h⟩ := h
        try dsimp only at h
        replace F71 := zaa.mk F71
        replace h := Option.bind_eq_some_iff.1 h
        obtain ⟨⟨t72, t73, t74, t75, t76, t77⟩, F78, h⟩ := h
        try dsimp only at h
        replace F78 := zaa.mk F78
        refine rgt (N := 84) 10 ?_
        rw [show List.range 10 = [0, 1, 2, 3, 4, 5, 6, 7, 8, 9] from rfl]
        refine rgv (.slice Au534 t1.length cu534) ?_ ?_
        ·
         intro a w' hr hs
         have h1 := hs.ov 1 (.slice Au534 t1.length cu534)
         go_simp
        refine rgc (fun v _ => v = .agg #[.bool false, .string (⟨#[67]⟩ : ByteArray), .int .i64 (-1)]) Try.func10 ?_ ?_
        ·
         intro a w' hr hs
         rw [show (#[Operand.const (.string (⟨#[67]⟩ : ByteArray)), Operand.const (.int .i64 (-1))] : Array Operand).map a.eval = #[.string (⟨#[67]⟩ : ByteArray), .int .i64 (-1)] by simp [Act.eval]]
         refine (zbF.calls (⟨#[67]⟩ : ByteArray) (-1) false (⟨#[67]⟩ : ByteArray) (-1) _ rfl).mono ?_
         rintro e w3 ⟨rfl, hb⟩
         exact ⟨_, rfl, hb, rfl⟩
        refine rgc (fun v _ => v = .agg #[.bool true, .string (⟨#[67]⟩ : ByteArray), .int .i64 1]) Try.func17 ?_ ?_
        ·
         intro a w' hr hs
         rw [show (#[Operand.const (.string (⟨#[67]⟩ : ByteArray)), Operand.const (.int .i64 1)] : Array Operand).map a.eval = #[.string (⟨#[67]⟩ : ByteArray), .int .i64 1] by simp [Act.eval]]
         refine (zbO.calls (⟨#[67]⟩ : ByteArray) 1 true (⟨#[67]⟩ : ByteArray) 1 _ rfl).mono ?_
         rintro e w3 ⟨rfl, hb⟩
         exact ⟨_, rfl, hb, rfl⟩
        refine zdc k35 35 ([(⟨false, (⟨#[67]⟩ : ByteArray), (-1)⟩ : S35), (⟨true, (⟨#[67]⟩ : ByteArray), 1⟩ : S35)] : List (S35)) rfl rfl (fun _ _ _ _ => zae rfl) s9 ?_ ?_
        ·
         intro a w' hr hs
         have h60 := hs.gv 1 rfl rfl
         have h61 := hs.gv 0 rfl rfl
         refine ⟨[.bool false, .string (⟨#[67]⟩ : ByteArray), .int .i64 (-1), .bool true, .string (⟨#[67]⟩ : ByteArray), .int .i64 1], by go_simp <;> rfl, ?_⟩
         exact Reps.c3 (show Kd.M k35 _ _ _ (⟨false, (⟨#[67]⟩ : ByteArray), (-1)⟩ : S35) [.bool false, .string (⟨#[67]⟩ : ByteArray), .int .i64 (-1)] from zce _ _ _ _) (Reps.c3 (show Kd.M k35 _ _ _ (⟨true, (⟨#[67]⟩ : ByteArray), 1⟩ : S35) [.bool true, .string (⟨#[67]⟩ : ByteArray), .int .i64 1] from zce _ _ _ _) (Reps.none _ _))
        refine rgc (OneR k35 35 ([(⟨false, (⟨#[67]⟩ : ByteArray), (-1)⟩ : S35), (⟨true, (⟨#[67]⟩ : ByteArray), 1⟩ : S35)] : List (S35)) (vA 7 1 0 (⟨#[67]⟩ : ByteArray))) Try.func9 ?_ ?_
        ·
         intro a w' hr hs
         have g62 : OneR k35 35 ([(⟨false, (⟨#[67]⟩ : ByteArray), (-1)⟩ : S35), (⟨true, (⟨#[67]⟩ : ByteArray), 1⟩ : S35)] : List (S35)) (fun u => u) (a.tmps[62]?.getD undef) w' := hs.g 0
         obtain ⟨A62, c62, h62, hc62, hC62, hR62⟩ := g62.reads
         replace h62 : a.tmps[62]?.getD undef = .slice A62 ([(⟨false, (⟨#[67]⟩ : ByteArray), (-1)⟩ : S35), (⟨true, (⟨#[67]⟩ : ByteArray), 1⟩ : S35)] : List (S35)).length c62 := h62
         rw [show (#[Operand.const (.string (⟨#[67]⟩ : ByteArray)), Operand.tmp 62] : Array Operand).map a.eval = #[.string (⟨#[67]⟩ : ByteArray), .slice A62 ([(⟨false, (⟨#[67]⟩ : ByteArray), (-1)⟩ : S35), (⟨true, (⟨#[67]⟩ : ByteArray), 1⟩ : S35)] : List (S35)).length c62] by simp [Act.eval, h62]]
         refine (zaE.zde _ _ _ _ _).mono ?_
         rintro e w3 ⟨rfl, hb⟩
         exact ⟨_, rfl, hb, _, rfl, Kd.zbC hR62 hb⟩
        refine rgc (OneR k35 35 t70 (vA t66 t67 t68 t69)) Try.func11 ?_ ?_
        ·
         intro a w' hr hs
         rw [show (#[] : Array Operand).map a.eval = #[] by simp]
         refine (zaJ.calls t66 t67 t68 t69 t70 _ F71.out).mono ?_
         rintro e w3 ⟨v, rfl, hR, hb⟩
         exact ⟨_, rfl, hb, OneR.of hR⟩
        refine rgc (OneR k35 35 t76 (vT t72 t73 t74 t75 t77)) Try.func16 ?_ ?_
        ·
         intro a w' hr hs
         have h59 := hs.gv 5 rfl rfl
         have g63 : OneR k35 35 ([(⟨false, (⟨#[67]⟩ : ByteArray), (-1)⟩ : S35), (⟨true, (⟨#[67]⟩ : ByteArray), 1⟩ : S35)] : List (S35)) (vA 7 1 0 (⟨#[67]⟩ : ByteArray)) (a.tmps[63]?.getD undef) w' := hs.g 1
         obtain ⟨A63, c63, h63, hc63, hC63, hR63⟩ := g63.reads
         replace h63 : a.tmps[63]?.getD undef = .agg #[.int .i64 7, .int .i64 1, .int .u64 0, .string (⟨#[67]⟩ : ByteArray), .slice A63 ([(⟨false, (⟨#[67]⟩ : ByteArray), (-1)⟩ : S35), (⟨true, (⟨#[67]⟩ : ByteArray), 1⟩ : S35)] : List (S35)).length c63] := h63
         obtain ⟨A64, c64, h64, hc64, hC64, hR64⟩ := hs.rd 0 rfl rfl
         simp only [vA] at h64
         rw [show (#[Operand.tmp 59, Operand.tmp 63, Operand.const (.string (⟨#[109]⟩ : ByteArray)), Operand.const (.int .i64 1), Operand.tmp 64, Operand.const (.bool false)] : Array Operand).map a.eval = #[.slice Au534 t1.length cu534, .agg #[.int .i64 7, .int .i64 1, .int .u64 0, .string (⟨#[67]⟩ : ByteArray), .slice A63 ([(⟨false, (⟨#[67]⟩ : ByteArray), (-1)⟩ : S35), (⟨true, (⟨#[67]⟩ : ByteArray), 1⟩ : S35)] : List (S35)).length c63], .string (⟨#[109]⟩ : ByteArray), .int .i64 1, .agg #[.int .i64 t66, .int .i64 t67, .int .u64 t68, .string t69, .slice A64 t70.length c64], .bool false] by simp [Act.eval, h59, h63, h64]]
         refine (zbe.calls k Au534 cu534 t1 7 1 0 (⟨#[67]⟩ : ByteArray) A63 c63 ([(⟨false, (⟨#[67]⟩ : ByteArray), (-1)⟩ : S35), (⟨true, (⟨#[67]⟩ : ByteArray), 1⟩ : S35)] : List (S35)) (⟨#[109]⟩ : ByteArray) 1 t66 t67 t68 t69 A64 c64 t70 false t72 t73 t74 t75 t76 t77 _ (Kd.zat HCu534.out hr) hcu534 hC63 hc63 hC64 hc64 F78.out).mono ?_
         rintro e w3 ⟨v, rfl, hR, hb⟩
         exact ⟨_, rfl, hb, OneR.of hR⟩
        refine rgk (OneR k35 35 t76 (vT t72 t73 t74 t75 t77)) ?_ ?_
        ·
         intro a w' hr hs
         obtain ⟨A65, c65, h65, hc65, hC65, hR65⟩ := hs.rd 0 rfl rfl
         simp only [vT] at h65
         exact ⟨.tuple #[.agg #[.int .i64 t72, .int .i64 t73, .int .u64 t74, .string t75, .slice A65 t76.length c65], .int .i64 t77], by go_simp, _, rfl, hR65⟩
        refine rgk (OneR k35 35 t76 (vA t72 t73 t74 t75)) ?_ ?_
        ·
         intro a w' hr hs
         obtain ⟨A58, c58, h58, hc58, hC58, hR58⟩ := hs.rd 0 rfl rfl
         simp only [vT] at h58
         exact ⟨.agg #[.int .i64 t72, .int .i64 t73, .int .u64 t74, .string t75, .slice A58 t76.length c58], by go_simp, _, rfl, hR58⟩
        refine rgv (.int .i64 t77) ?_ ?_
        ·
         intro a w' hr hs
         obtain ⟨A58, c58, h58, hc58, hC58, hR58⟩ := hs.rd 1 rfl rfl
         simp only [vT] at h58
         go_simp
        intro vs w544_ hr hE
        have g_ : OneR k35 35 t76 (vA t72 t73 t74 t75) (vs 8) w544_ := hE _ (zbs 1 rfl)
        obtain ⟨Au545, cu545, e8, hcu545, hCu545, hRu545⟩ := g_.reads
        clear g_
        replace e8 : vs 8 = .agg #[.int .i64 t72, .int .i64 t73, .int .u64 t74, .string t75, .slice Au545 t76.length cu545] := e8
        have HCu545 := zaa.mk hCu545
        clear hCu545
        have HRu545 := zaa.mk hRu545
        clear hRu545
        have e9 : vs 9 = .int .i64 t77 := hE _ (zbs 0 rfl)
        have hg : Grows w543_ w544_ := hr
        clear hE hr
        rw [show List.range 10 = [0, 1, 2, 3, 4, 5, 6, 7, 8, 9] from rfl]
        simp only [ps, ga, pa, e8, e9]
        clear e8 e9
        have hT : Grows w544_ w544_ := Grows.refl _
        obtain ⟨w544_a, hw544_a⟩ : ∃ W, W = w544_.alloc (.cells #[.int .i64 0, .int .i64 0, .int .u64 0, .string (⟨#[]⟩ : ByteArray), .slice none 0 0] 27) := ⟨_, rfl⟩
        obtain ⟨b79_, hb79_⟩ : ∃ n, n = w544_.heap.size := ⟨_, rfl⟩
        refine zbv (i := 10) (r := [11, 12]) (w' := w544_a) 5 (.pointer (some ⟨b79_, 0, none⟩)) rfl rfl (zae rfl) (by rw [hw544_a, hb79_]; go_simp) ?_
        simp only [pa]
        have HXb79 : w544_a.heap[b79_]? = some (.cells #[.int .i64 0, .int .i64 0, .int .u64 0, .string (⟨#[]⟩ : ByteArray), .slice none 0 0] 27 (0, 0)) := by rw [hw544_a, hb79_]; exact at_new _ _ rfl
        replace HXb79 := zaa.mk HXb79
        have hlb79 : w544_.heap.size ≤ b79_ := by rw [hb79_]; exact hT.size
        replace hT : Grows w544_ w544_a := by rw [hw544_a]; exact hT.trans (Grows.alloc _ _)
        clear hw544_a hb79_
        have hwb79 : w.heap.size ≤ b79_ := Nat.le_trans (Nat.le_trans HB.out.size hg.size) hlb79
        have hneb3b79 : b3_ ≠ b79_ := by have h1 := zai HXb3.out; have h2 := hg.size; omega
        have z0 := zad HXb79.out 0
        have f0 := free_at HXb79.out 0
        have z1 := zad HXb79.out 1
        have f1 := free_at HXb79.out 1
        have z2 := zad HXb79.out 2
        have f2 := free_at HXb79.out 2
        have z3 := zad HXb79.out 3
        have f3 := free_at HXb79.out 3
        have z4 := zad HXb79.out 4
        have f4 := free_at HXb79.out 4
        simp only [ga] at z0 z1 z2 z3 z4
        obtain ⟨w544_as, hw544_as⟩ : ∃ W, W = (((((w544_a.setCell ⟨b79_, 0, none⟩ (.int .i64 t72)).setCell ⟨b79_, 1, none⟩ (.int .i64 t73)).setCell ⟨b79_, 2, none⟩ (.int .u64 t74)).setCell ⟨b79_, 3, none⟩ (.string t75)).setCell ⟨b79_, 4, none⟩ (.slice Au545 t76.length cu545)) := ⟨_, rfl⟩
        refine zcT (i := 11) (r := [12]) (w' := w544_as) rfl rfl (zae rfl) (by rw [hw544_as]; go_simp) ?_
        clear z0 z1 z2 z3 z4 f0 f1 f2 f3 f4
        have hX_ : w544_as.heap[b79_]? = some (.cells #[.int .i64 t72, .int .i64 t73, .int .u64 t74, .string t75, .slice Au545 t76.length cu545] 27 (0, 0)) := by rw [hw544_as]; exact (zaf (zaf (zaf (zaf (zaf HXb79.out 0 (.int .i64 t72) rfl) 1 (.int .i64 t73) rfl) 2 (.int .u64 t74) rfl) 3 (.string t75) rfl) 4 (.slice Au545 t76.length cu545) rfl)
        replace HXb79 := zaa.mk hX_
        clear hX_
        replace hT : Grows w544_ w544_as := by rw [hw544_as]; exact (setB (setB (setB (setB (setB hT hlb79 (.int .i64 t72)) hlb79 (.int .i64 t73)) hlb79 (.int .u64 t74)) hlb79 (.string t75)) hlb79 (.slice Au545 t76.length cu545))
        clear hw544_as
        refine zbv (i := 12) (r := []) (w' := w544_as) 6 (.int .i64 t77) rfl rfl (zae rfl) q9 ?_
        simp only [pa]
        replace HCu545 := cb HCu545 hT
        replace HRu545 := rb HRu545 hT
        replace hg : Grows w543_ w544_as := hg.trans hT
        clear hT
        refine zaX ?_
        simp only [Exit.then]
        replace HCu534 := cb HCu534 hg
        replace HXb3 := ab HXb3 hg
        replace HB := hbm HB hg
        clear hg
        refine wp_seq ?_
        replace h := Option.bind_eq_some_iff.1 h
        obtain ⟨t80, F81, h⟩ := h
        try dsimp only at h
        replace F81 := zaa.mk F81
        by_cases q546 : t80 = true
        ·
         rw [if_pos q546] at h
         obtain rfl : t80 = true := by simpa using q546
         by_cases q547 : t64 = true
         ·
          rw [if_pos q547] at h
          obtain rfl : t64 = true := by simpa using q547
          by_cases q548 : (t77 == 0) = true
          ·
           rw [if_pos q548] at h
           have q548a : (t77 == 0) = true := by simpa using q548
           have q548b : decide (t77 = 0) = true := by simpa using q548
           clear q548
           replace h := Option.bind_eq_some_iff.1 h
           obtain ⟨⟨t82, t83, t84, t85, t86⟩, F87, h⟩ := h
           try dsimp only at h
           replace F87 := zaa.mk F87
           replace h := Option.bind_eq_some_iff.1 h
           obtain ⟨t88, F89, h⟩ := h
           try dsimp only at h
           replace F89 := zaa.mk F89
           refine zgt (N := 84) 17 Grows k9 k9 rfl Grows.refl Grows.trans ?_
           rw [show List.range 17 = [0, 1, 2, 3, 4, 5, 6, 7, 8, 9, 10, 11, 12, 13, 14, 15, 16] from rfl]
           refine rgc (fun v _ => v = .bool true) Try.func18 ?_ ?_
           ·
            intro a w' hr hs
            rw [show (#[] : Array Operand).map a.eval = #[] by simp]
            refine (zaQ.calls k true _ F81.out).mono ?_
            rintro e w3 ⟨rfl, hb⟩
            exact ⟨_, rfl, hb, rfl⟩
           refine rgv (.bool true) ?_ ?_
           ·
            intro a w' hr hs
            have h68 := hs.gv 0 rfl rfl
            go_simp
           refine zaF (.bool true) Grows.refl rfl (fun a w hr hs => zax (g := 1) (t := 69) rfl rfl (hs.g 0)) ?_ ?_
           ·
            intro a w' hr hs
            have h3 := hs.ov 3 (.bool true)
            go_simp
           refine rgv (.bool true) ?_ ?_
           ·
            intro a w' hr hs
            have h69 := hs.gv 1 rfl rfl
            have h70 := hs.gv 0 rfl rfl
            go_simp
           refine rgv (.bool true) ?_ ?_
           ·
            intro a w' hr hs
            have h71 := hs.gv 0 rfl rfl
            go_simp
           refine zaF (.bool true) Grows.refl rfl (fun a w hr hs => zax (g := 4) (t := 72) rfl rfl (hs.g 0)) ?_ ?_
           ·
            intro a w' hr hs
            have h4 := hs.ov 4 (.bool true)
            go_simp
           refine rgv (.bool true) ?_ ?_
           ·
            intro a w' hr hs
            have h72 := hs.gv 1 rfl rfl
            have h73 := hs.gv 0 rfl rfl
            go_simp
           refine rgv (.bool true) ?_ ?_
           ·
            intro a w' hr hs
            have h74 := hs.gv 0 rfl rfl
            go_simp
           refine zaF (.int .i64 t77) Grows.refl rfl (fun a w hr hs => zax (g := 7) (t := 75) rfl rfl (hs.g 0)) ?_ ?_
           ·
            intro a w' hr hs
            have h6 := hs.ov 6 (.int .i64 t77)
            go_simp
           refine zaF (.bool true) Grows.refl rfl (fun a w hr hs => zax (g := 7) (t := 75) rfl rfl (hs.g 1)) ?_ ?_
           ·
            intro a w' hr hs
            have h76 := hs.gv 0 rfl rfl
            go_simp
           refine rgv (.bool true) ?_ ?_
           ·
            intro a w' hr hs
            have h75 := hs.gv 2 rfl rfl
            have h77 := hs.gv 0 rfl rfl
            go_simp
           refine rgv (.bool true) ?_ ?_
           ·
            intro a w' hr hs
            have h78 := hs.gv 0 rfl rfl
            go_simp
           refine zaF (.agg #[.int .i64 t72, .int .i64 t73, .int .u64 t74, .string t75, .slice Au545 t76.length cu545]) Grows.refl rfl (fun a w hr hs => zax (g := 11) (t := 79) rfl rfl (hs.g 0)) ?_ ?_
           ·
            intro a w' hr hs
            have h5 := hs.ov 5 (.pointer (some ⟨b79_, 0, none⟩))
            have x := hr.at (zcd HXb79.out)
            have x0 := zad x 0
            have x1 := zad x 1
            have x2 := zad x 2
            have x3 := zad x 3
            have x4 := zad x 4
            simp only [ga] at x0 x1 x2 x3 x4
            go_simp
           refine zbc (OneR k35 35 t86 (vA t82 t83 t84 t85)) OneR.grows rfl rfl Try.func11 k9 rfl (fun a w hr hs => zax (g := 11) (t := 79) rfl rfl (hs.g 1)) ?_ ?_
           ·
            intro a w' hr hs
            rw [show (#[] : Array Operand).map a.eval = #[] by simp]
            refine (zaJ.calls t82 t83 t84 t85 t86 _ F87.out).mono ?_
            rintro e w3 ⟨v, rfl, hR, hb⟩
            exact ⟨_, rfl, hb, OneR.of hR⟩
           refine zbc (fun v _ => v = .bool t88) (fun _ _ _ _ h => h) rfl rfl Try.func14 k9 rfl (fun a w hr hs => zax (g := 11) (t := 79) rfl rfl (hs.g 2)) ?_ ?_
           ·
            intro a w' hr hs
            have h80 := hs.gv 1 rfl rfl
            obtain ⟨A81, c81, h81, hc81, hC81, hR81⟩ := hs.rd 0 rfl rfl
            simp only [vA] at h81
            rw [show (#[Operand.tmp 80, Operand.tmp 81] : Array Operand).map a.eval = #[.agg #[.int .i64 t72, .int .i64 t73, .int .u64 t74, .string t75, .slice Au545 t76.length cu545], .agg #[.int .i64 t82, .int .i64 t83, .int .u64 t84, .string t85, .slice A81 t86.length c81]] by simp [Act.eval, h80, h81]]
            refine (zaj.calls k t72 t73 t74 t75 Au545 cu545 t76 t82 t83 t84 t85 A81 c81 t86 t88 _ (Kd.zat (Kd.zbu HCu545.out) hr) hcu545 hC81 hc81 F89.out).mono ?_
            rintro e w3 ⟨rfl, hb⟩
            exact ⟨_, rfl, hb, rfl⟩
           refine rgv (.bool t88) ?_ ?_
           ·
            intro a w' hr hs
            have h79 := hs.gv 3 rfl rfl
            have h82 := hs.gv 0 rfl rfl
            go_simp
           refine rgv (.bool t88) ?_ ?_
           ·
            intro a w' hr hs
            have h83 := hs.gv 0 rfl rfl
            go_simp
           intro vs w549_ hr hE
           have e16 : vs 16 = .bool t88 := hE _ (zbs 0 rfl)
           have hg : Grows w544_as w549_ := Below.trans (Below.refl w544_as.heap.size w544_as).drew hr
           clear hE hr
           rw [show List.range 17 = [0, 1, 2, 3, 4, 5, 6, 7, 8, 9, 10, 11, 12, 13, 14, 15, 16] from rfl]
           simp only [ps, ga, pa, e16]
           clear e16
           refine zaX ?_
           simp only [Exit.then]
           replace HCu534 := cb HCu534 hg
           replace HCu545 := cb HCu545 hg
           replace HRu545 := rb HRu545 hg
           replace HXb3 := ab HXb3 hg
           replace HXb79 := ab HXb79 hg
           replace HB := hbm HB hg
           clear hg
           obtain rfl := Option.some.inj h
           go_wp2_with fail
           go_ret
           exact ⟨rfl, HB.out⟩
          ·
           rw [if_neg q548] at h
           cases h
         ·
          rw [if_neg q547] at h
          cases h
        ·
         rw [if_neg q546] at h
         cases h
       ·
        rw [if_neg q542] at h
        cases h
      ·
       rw [if_neg q541] at h
       cases h
     ·
      rw [if_neg q540] at h
      cases h
    ·
     rw [if_neg q539] at h
     cases h
   ·
    rw [if_neg q537] at h
    cases h
  ·
   rw [if_neg q536] at h
   cases h
 ·
  rw [if_neg q535] at h
  cases h
def zam.l0 : Nat → List (S58) → Int → Option (Bool)
 | 0, _, _ => none
 | k + 1, x0, x3 => if x3 < (x0.length : Int) then (if 0 ≤ x3 then (if (((zbG x0 x3).f0).size : Int) > 30 then (some true) else (if (((zbG x0 x3).f1).size : Int) > 30 then (some true) else (zam.l0 k x0 (wrap64 (x3 + 1))))) else (none)) else (some false)
def zam.f (k : Nat) (l0 : List (S58)) : Option (Bool) := zam.l0 k l0 0
theorem zam.zbM : ∀ k, (∀ y0 y1, LeO (zam.l0 k y0 y1) (zam.l0 (k + 1) y0 y1))
 | 0 => fun _ _ r h => by simp [zam.l0] at h
 | k + 1 => by
  have ih0 := zam.zbM k
  ·
   intro y0 y1
   unfold zam.l0
   repeat' first
   | (with_reducible exact ih0 _ _)
   | (with_reducible exact LeO.refl _)
   | (with_reducible exact LeO.none _)
   | (with_reducible refine LeO.ite ?_ ?_)
   | (with_reducible refine LeO.bind ?_ (fun _ => ?_))
   | exact ih0 _ _
   | exact LeO.none _
   | refine LeO.ite ?_ ?_
   | refine LeO.bind ?_ (fun _ => ?_)
theorem zam.mono : ∀ a0 k, LeO (zam.f k a0) (zam.f (k + 1) a0) := by
 intro a0 k
 have ih0 := zam.zbM k
 unfold zam.f
 repeat' first
   | (with_reducible exact ih0 _ _)
   | (with_reducible exact LeO.refl _)
   | (with_reducible exact LeO.none _)
   | (with_reducible refine LeO.ite ?_ ?_)
   | (with_reducible refine LeO.bind ?_ (fun _ => ?_))
   | exact ih0 _ _
   | exact LeO.none _
   | refine LeO.ite ?_ ?_
   | refine LeO.bind ?_ (fun _ => ?_)
theorem zam.calls (k : Nat) (A0 : Option Addr) (c0 : Nat) (l0 : List (S58)) (r : Bool) (w : World) (hr0 : Kd.C k58 w A0 l0.length l0) (hc0 : l0.length ≤ c0) (h : zam.f k l0 = some r) :
  Calls Try.prog 38 #[.slice A0 l0.length c0] w fun e w' => e = .returned (.bool r) ∧ za1 w w' := by
 have HR0 := zaa.mk hr0
 have HC0 := zaa.mk hc0
 clear hr0 hc0
 have H : (zam.l0 k l0 0) = some r := h
 clear h
 have H' := zaa.mk H
 clear H
 go_enter Try.func38, Try.ntmps38
 go_wp2
 go_loopg [3] k (fun kq v3 w' => ∃ (x3_1 : Int), v3 = .int .i64 x3_1 ∧ zaa (zam.l0 kq l0 x3_1 = some r) ∧ zaa (kq ≤ k) ∧ za1 w w')
 case atStart => exact ⟨(0), (by first | rfl | (simp; done) | (simp [*]; done)), H', ⟨Nat.le_refl _⟩, by repeat (first | exact za1.refl _ | apply za1.step)⟩
 case round =>
  clear H'
  obtain ⟨x3_1, rfl, HA, HK1, ⟨m1, rfl⟩⟩ := hrel
  cases gk with
  | zero => exact absurd HA.out (by simp [zam.l0])
  | succ k1 =>
   have H := HA.out
   clear HA
   simp only [zam.l0] at H
   by_cases c2 : x3_1 < (l0.length : Int)
   ·
    rw [if_pos c2] at H
    have c2b0 : decide (x3_1 < (l0.length : Int)) = true := decide_eq_true c2
    clear c2
    by_cases c3 : 0 ≤ x3_1
    ·
     rw [if_pos c3] at H
     have c3b0 : decide (0 ≤ x3_1) = true := decide_eq_true c3
     clear c3
     by_cases c4 : (((zbG l0 x3_1).f0).size : Int) > 30
     ·
      rw [if_pos c4] at H
      have c4b0 : decide (30 < (((zbG l0 x3_1).f0).size : Int)) = true := decide_eq_true c4
      have c4b1 : decide (30 < ((zbG l0 x3_1).f0).size) = true := decide_eq_true o9
      clear c4
      obtain rfl := Option.some.inj H
      have p261 : 0 ≤ (x3_1 : Int) := of_decide_eq_true (by first | (with_reducible assumption) | assumption)
      have q261 : x3_1 < (l0.length : Int) := of_decide_eq_true (by first | (with_reducible assumption) | assumption)
      obtain ⟨ad261, e261, hx261_0, hx261_1⟩ := zdS HR0.out x3_1 p261 q261
      cases e261
      replace p261 := eq_true p261
      replace q261 := eq_true q261
      go_wp2
      go_ret
      exact ⟨by first | rfl | (simp; done) | (simp [*]; done), by repeat (first | exact za1.refl _ | apply za1.step)⟩
     ·
      rw [if_neg c4] at H
      have c4b0 : decide (30 < (((zbG l0 x3_1).f0).size : Int)) = false := decide_eq_false c4
      have c4b1 : decide (30 < ((zbG l0 x3_1).f0).size) = false := decide_eq_false o9
      clear c4
      by_cases c5 : (((zbG l0 x3_1).f1).size : Int) > 30
      ·
       rw [if_pos c5] at H
       have c5b0 : decide (30 < (((zbG l0 x3_1).f1).size : Int)) = true := decide_eq_true c5
       have c5b1 : decide (30 < ((zbG l0 x3_1).f1).size) = true := decide_eq_true o9
       clear c5
       obtain rfl := Option.some.inj H
       have p261 : 0 ≤ (x3_1 : Int) := of_decide_eq_true (by first | (with_reducible assumption) | assumption)
       have q261 : x3_1 < (l0.length : Int) := of_decide_eq_true (by first | (with_reducible assumption) | assumption)
       obtain ⟨ad261, e261, hx261_0, hx261_1⟩ := zdS HR0.out x3_1 p261 q261
       cases e261
       replace p261 := eq_true p261
       replace q261 := eq_true q261
       have p262 : 0 ≤ (x3_1 : Int) := of_decide_eq_true (by first | (with_reducible assumption) | assumption)
       have q262 : x3_1 < (l0.length : Int) := of_decide_eq_true (by first | (with_reducible assumption) | assumption)
       obtain ⟨ad262, e262, hx262_0, hx262_1⟩ := zdS HR0.out x3_1 p262 q262
       obtain rfl : ad261 = ad262 := (by injection e262)
       replace p262 := eq_true p262
       replace q262 := eq_true q262
       go_wp2
       go_ret
       exact ⟨by first | rfl | (simp; done) | (simp [*]; done), by repeat (first | exact za1.refl _ | apply za1.step)⟩
      ·
       rw [if_neg c5] at H
       have c5b0 : decide (30 < (((zbG l0 x3_1).f1).size : Int)) = false := decide_eq_false c5
       have c5b1 : decide (30 < ((zbG l0 x3_1).f1).size) = false := decide_eq_false o9
       clear c5
       have H' := zaa.mk H
       clear H
       have p261 : 0 ≤ (x3_1 : Int) := of_decide_eq_true (by first | (with_reducible assumption) | assumption)
       have q261 : x3_1 < (l0.length : Int) := of_decide_eq_true (by first | (with_reducible assumption) | assumption)
       obtain ⟨ad261, e261, hx261_0, hx261_1⟩ := zdS HR0.out x3_1 p261 q261
       cases e261
       replace p261 := eq_true p261
       replace q261 := eq_true q261
       have p262 : 0 ≤ (x3_1 : Int) := of_decide_eq_true (by first | (with_reducible assumption) | assumption)
       have q262 : x3_1 < (l0.length : Int) := of_decide_eq_true (by first | (with_reducible assumption) | assumption)
       obtain ⟨ad262, e262, hx262_0, hx262_1⟩ := zdS HR0.out x3_1 p262 q262
       obtain rfl : ad261 = ad262 := (by injection e262)
       replace p262 := eq_true p262
       replace q262 := eq_true q262
       go_wp2
       go_roundg k1
       case measure => have := HK1.out; omega
       case rel => exact ⟨(wrap64 (x3_1 + 1)), (by first | rfl | (simp; done) | (simp [*]; done)), H', ⟨by have := HK1.out; omega⟩, by repeat (first | exact za1.refl _ | apply za1.step)⟩
    ·
     rw [if_neg c3] at H
     exact absurd H s9
   ·
    rw [if_neg c2] at H
    have c2b0 : decide (x3_1 < (l0.length : Int)) = false := decide_eq_false c2
    clear c2
    obtain rfl := Option.some.inj H
    go_wp2
    go_ret
    exact ⟨by first | rfl | (simp; done) | (simp [*]; done), by repeat (first | exact za1.refl _ | apply za1.step)⟩
mutual
def zah.l0 : Nat → List (S64) → Int → Option (Bool)
 | 0, _, _ => none
 | k + 1, x0, x3 => if x3 < (x0.length : Int) then (zah.j1 k x0 x3 (decide (x3 < 10))) else (zah.j1 k x0 x3 false)
def zah.j1 : Nat → List (S64) → Int → Bool → Option (Bool)
 | 0, _, _, _ => none
 | k + 1, x0, x3, x14 => if x14 = true then (if 0 ≤ x3 then (if x3 < (x0.length : Int) then (if (((zar x0 x3).f0).size : Int) > 30 then (zah.j2 k x0 x3 true ((zar x0 x3).f0) ((zar x0 x3).f1) ((zar x0 x3).f2) ((zar x0 x3).f3)) else (if (((zar x0 x3).f1).size : Int) > 30 then (zah.j2 k x0 x3 true ((zar x0 x3).f0) ((zar x0 x3).f1) ((zar x0 x3).f2) ((zar x0 x3).f3)) else (if (((zar x0 x3).f2).length : Int) > 7 then (zah.j2 k x0 x3 true ((zar x0 x3).f0) ((zar x0 x3).f1) ((zar x0 x3).f2) ((zar x0 x3).f3)) else (if (((zar x0 x3).f3).length : Int) > 7 then (zah.j2 k x0 x3 true ((zar x0 x3).f0) ((zar x0 x3).f1) ((zar x0 x3).f2) ((zar x0 x3).f3)) else ((zam.f k ((zar x0 x3).f2)).bind fun t265 => (zah.j2 k x0 x3 t265 ((zar x0 x3).f0) ((zar x0 x3).f1) ((zar x0 x3).f2) ((zar x0 x3).f3))))))) else (none)) else (none)) else (some (decide ((x0.length : Int) > 9)))
def zah.j2 : Nat → List (S64) → Int → Bool → ByteArray → ByteArray → List (S58) → List (S61) → Option (Bool)
 | 0, _, _, _, _, _, _, _ => none
 | k + 1, x0, x3, x47, x265000, x265001, x265002, x265003 => if x47 = true then (some true) else (zah.l1 k x0 x3 0 x265000 x265001 x265002 x265003)
def zah.l1 : Nat → List (S64) → Int → Int → ByteArray → ByteArray → List (S58) → List (S61) → Option (Bool)
 | 0, _, _, _, _, _, _, _ => none
 | k + 1, x0, x3, x5, x265000, x265001, x265002, x265003 => if x5 < (x265003.length : Int) then (if 0 ≤ x5 then (if (((za6 x265003 x5).f0).size : Int) > 30 then (some true) else (if (((za6 x265003 x5).f2).size : Int) > 30 then (some true) else (if (((za6 x265003 x5).f1).length : Int) > 10 then (some true) else ((zam.f k ((za6 x265003 x5).f1)).bind fun t268 => (if t268 = true then (some true) else (zah.l1 k x0 x3 (wrap64 (x5 + 1)) x265000 x265001 x265002 x265003)))))) else (none)) else (zah.l0 k x0 (wrap64 (x3 + 1)))
end
def zah.f (k : Nat) (l0 : List (S64)) : Option (Bool) := zah.l0 k l0 0
theorem zah.zbM : ∀ k, (∀ y0 y1, LeO (zah.l0 k y0 y1) (zah.l0 (k + 1) y0 y1)) ∧ (∀ y0 y1 y2, LeO (zah.j1 k y0 y1 y2) (zah.j1 (k + 1) y0 y1 y2)) ∧ (∀ y0 y1 y2 y3 y4 y5 y6, LeO (zah.j2 k y0 y1 y2 y3 y4 y5 y6) (zah.j2 (k + 1) y0 y1 y2 y3 y4 y5 y6)) ∧ (∀ y0 y1 y2 y3 y4 y5 y6, LeO (zah.l1 k y0 y1 y2 y3 y4 y5 y6) (zah.l1 (k + 1) y0 y1 y2 y3 y4 y5 y6))
 | 0 => ⟨fun _ _ r h => by simp [zah.l0] at h, fun _ _ _ r h => by simp [zah.j1] at h, fun _ _ _ _ _ _ _ r h => by simp [zah.j2] at h, fun _ _ _ _ _ _ _ r h => by simp [zah.l1] at h⟩
 | k + 1 => by
  obtain ⟨ih0, ih1, ih2, ih3⟩ := zah.zbM k
  refine ⟨?_, ?_, ?_, ?_⟩
  ·
   intro y0 y1
   unfold zah.l0
   repeat' first
   | (with_reducible exact ih0 _ _)
   | (with_reducible exact ih1 _ _ _)
   | (with_reducible exact ih2 _ _ _ _ _ _ _)
   | (with_reducible exact ih3 _ _ _ _ _ _ _)
   | (with_reducible exact zam.mono _ _)
   | (with_reducible exact LeO.refl _)
   | (with_reducible exact LeO.none _)
   | (with_reducible refine LeO.ite ?_ ?_)
   | (with_reducible refine LeO.bind ?_ (fun _ => ?_))
   | exact ih0 _ _
   | exact ih1 _ _ _
   | exact ih2 _ _ _ _ _ _ _
   | exact ih3 _ _ _ _ _ _ _
   | exact zam.mono _ _
   | exact LeO.none _
   | refine LeO.ite ?_ ?_
   | refine LeO.bind ?_ (fun _ => ?_)
  ·
   intro y0 y1 y2
   unfold zah.j1
   repeat' first
   | (with_reducible exact ih0 _ _)
   | (with_reducible exact ih1 _ _ _)
   | (with_reducible exact ih2 _ _ _ _ _ _ _)
   | (with_reducible exact ih3 _ _ _ _ _ _ _)
   | (with_reducible exact zam.mono _ _)
   | (with_reducible exact LeO.refl _)
   | (with_reducible exact LeO.none _)
   | (with_reducible refine LeO.ite ?_ ?_)
   | (with_reducible refine LeO.bind ?_ (fun _ => ?_))
   | exact ih0 _ _
   | exact ih1 _ _ _
   | exact ih2 _ _ _ _ _ _ _
   | exact ih3 _ _ _ _ _ _ _
   | exact zam.mono _ _
   | exact LeO.none _
   | refine LeO.ite ?_ ?_
   | refine LeO.bind ?_ (fun _ => ?_)
  ·
   intro y0 y1 y2 y3 y4 y5 y6
   unfold zah.j2
   repeat' first
   | (with_reducible exact ih0 _ _)
   | (with_reducible exact ih1 _ _ _)
   | (with_reducible exact ih2 _ _ _ _ _ _ _)
   | (with_reducible exact ih3 _ _ _ _ _ _ _)
   | (with_reducible exact zam.mono _ _)
   | (with_reducible exact LeO.refl _)
   | (with_reducible exact LeO.none _)
   | (with_reducible refine LeO.ite ?_ ?_)
   | (with_reducible refine LeO.bind ?_ (fun _ => ?_))
   | exact ih0 _ _
   | exact ih1 _ _ _
   | exact ih2 _ _ _ _ _ _ _
   | exact ih3 _ _ _ _ _ _ _
   | exact zam.mono _ _
   | exact LeO.none _
   | refine LeO.ite ?_ ?_
   | refine LeO.bind ?_ (fun _ => ?_)
  ·
   intro y0 y1 y2 y3 y4 y5 y6
   unfold zah.l1
   repeat' first
   | (with_reducible exact ih0 _ _)
   | (with_reducible exact ih1 _ _ _)
   | (with_reducible exact ih2 _ _ _ _ _ _ _)
   | (with_reducible exact ih3 _ _ _ _ _ _ _)
   | (with_reducible exact zam.mono _ _)
   | (with_reducible exact LeO.refl _)
   | (with_reducible exact LeO.none _)
   | (with_reducible refine LeO.ite ?_ ?_)
   | (with_reducible refine LeO.bind ?_ (fun _ => ?_))
   | exact ih0 _ _
   | exact ih1 _ _ _
   | exact ih2 _ _ _ _ _ _ _
   | exact ih3 _ _ _ _ _ _ _
   | exact zam.mono _ _
   | exact LeO.none _
   | refine LeO.ite ?_ ?_
   | refine LeO.bind ?_ (fun _ => ?_)
theorem zah.mono : ∀ a0 k, LeO (zah.f k a0) (zah.f (k + 1) a0) := by
 intro a0 k
 obtain ⟨ih0, ih1, ih2, ih3⟩ := zah.zbM k
 unfold zah.f
 repeat' first
   | (with_reducible exact ih0 _ _)
   | (with_reducible exact ih1 _ _ _)
   | (with_reducible exact ih2 _ _ _ _ _ _ _)
   | (with_reducible exact ih3 _ _ _ _ _ _ _)
   | (with_reducible exact zam.mono _ _)
   | (with_reducible exact LeO.refl _)
   | (with_reducible exact LeO.none _)
   | (with_reducible refine LeO.ite ?_ ?_)
   | (with_reducible refine LeO.bind ?_ (fun _ => ?_))
   | exact ih0 _ _
   | exact ih1 _ _ _
   | exact ih2 _ _ _ _ _ _ _
   | exact ih3 _ _ _ _ _ _ _
   | exact zam.mono _ _
   | exact LeO.none _
   | refine LeO.ite ?_ ?_
   | refine LeO.bind ?_ (fun _ => ?_)
theorem zah.calls (k : Nat) (A0 : Option Addr) (c0 : Nat) (l0 : List (S64)) (r : Bool) (w : World) (hr0 : Kd.C k64 w A0 l0.length l0) (hc0 : l0.length ≤ c0) (h : zah.f k l0 = some r) :
  Calls Try.prog 19 #[.slice A0 l0.length c0] w fun e w' => e = .returned (.bool r) ∧ Below w.heap.size w w' := by
 have hu64 := Try.underlying64
 have hu61 := Try.underlying61
 have HR0 := zaa.mk hr0
 have HC0 := zaa.mk hc0
 clear hr0 hc0
 have HB := zaa.mk (Below.refl w.heap.size w)
 have H : (zah.l0 k l0 0) = some r := h
 clear h
 have H' := zaa.mk H
 clear H
 go_enter Try.func19, Try.ntmps19
 go_wp2
 go_loopg [3] k (fun kq v3 w' => ∃ (x3_1 : Int), v3 = .int .i64 x3_1 ∧ zaa (zah.l0 kq l0 x3_1 = some r) ∧ zaa (kq ≤ k) ∧ zaa (Below w.heap.size w w'))
 case atStart => exact ⟨(0), (by first | rfl | (simp; done) | (simp [*]; done)), H', ⟨Nat.le_refl _⟩, ⟨bl HB.out⟩⟩
 case round =>
  clear H'
  try clear c1
  obtain ⟨x3_1, rfl, HA, HK1, HB⟩ := hrel
  cases gk with
  | zero => exact absurd HA.out (by simp [zah.l0])
  | succ k1 =>
   have H := HA.out
   clear HA
   simp only [zah.l0] at H
   have HC2 := zaa.mk H
   clear H
   go_upto_region 2 with (fail)
   go_cut [14] (fun v14 wc => ∃ (kq : Nat) (x14_1 : Bool), v14 = .bool x14_1 ∧ zaa (zah.j1 kq l0 x3_1 x14_1 = some r) ∧ zaa (kq ≤ k1) ∧ zaa (Below w.heap.size w wc))
   case first =>
    have H := HC2.out
    clear HC2
    by_cases c3 : x3_1 < (l0.length : Int)
    ·
     rw [if_pos c3] at H
     have c3b0 : decide (x3_1 < (l0.length : Int)) = true := decide_eq_true c3
     clear c3
     (first | rw [c3b0] | (simp only [i64_w, i32_w]; rw [c3b0]) | skip)
     have H' := zaa.mk H
     clear H
     go_wp2
     go_meet
     case rel => exact ⟨_, (decide (x3_1 < 10)), (by first | rfl | (simp; done) | (simp [*]; done)), H', ⟨by have := HK1.out; first | omega | exact Nat.le_refl _⟩, ⟨bl HB.out⟩⟩
    ·
     rw [if_neg c3] at H
     have c3b0 : decide (x3_1 < (l0.length : Int)) = false := decide_eq_false c3
     clear c3
     (first | rw [c3b0] | (simp only [i64_w, i32_w]; rw [c3b0]) | skip)
     have H' := zaa.mk H
     clear H
     go_wp2
     go_meet
     case rel => exact ⟨_, (false), (by first | rfl | (simp; done) | (simp [*]; done)), H', ⟨by have := HK1.out; first | omega | exact Nat.le_refl _⟩, ⟨bl HB.out⟩⟩
   case rest =>
    clear HC2
    try clear c1
    try clear p2
    try clear c3
    try clear c3b0
    obtain ⟨kq, x14_1, rfl, HA, HJ1, HB⟩ := hcut
    cases kq with
    | zero => exact absurd HA.out (by simp [zah.j1])
    | succ kj1 =>
     have H := HA.out
     clear HA
     simp only [zah.j1] at H
     by_cases c4 : x14_1 = true
     ·
      subst c4
      have H1 : (if 0 ≤ x3_1 then (if x3_1 < (l0.length : Int) then (if (((zar l0 x3_1).f0).size : Int) > 30 then (zah.j2 kj1 l0 x3_1 true ((zar l0 x3_1).f0) ((zar l0 x3_1).f1) ((zar l0 x3_1).f2) ((zar l0 x3_1).f3)) else (if (((zar l0 x3_1).f1).size : Int) > 30 then (zah.j2 kj1 l0 x3_1 true ((zar l0 x3_1).f0) ((zar l0 x3_1).f1) ((zar l0 x3_1).f2) ((zar l0 x3_1).f3)) else (if (((zar l0 x3_1).f2).length : Int) > 7 then (zah.j2 kj1 l0 x3_1 true ((zar l0 x3_1).f0) ((zar l0 x3_1).f1) ((zar l0 x3_1).f2) ((zar l0 x3_1).f3)) else (if (((zar l0 x3_1).f3).length : Int) > 7 then (zah.j2 kj1 l0 x3_1 true ((zar l0 x3_1).f0) ((zar l0 x3_1).f1) ((zar l0 x3_1).f2) ((zar l0 x3_1).f3)) else ((zam.f kj1 ((zar l0 x3_1).f2)).bind fun t265 => (zah.j2 kj1 l0 x3_1 t265 ((zar l0 x3_1).f0) ((zar l0 x3_1).f1) ((zar l0 x3_1).f2) ((zar l0 x3_1).f3))))))) else (none)) else (none)) = some r := by rw [if_pos rfl] at H; exact H
      clear H
      have H := H1
      clear H1
      by_cases c5 : 0 ≤ x3_1
      ·
       rw [if_pos c5] at H
       have c5b0 : decide (0 ≤ x3_1) = true := decide_eq_true c5
       clear c5
       by_cases c6 : x3_1 < (l0.length : Int)
       ·
        rw [if_pos c6] at H
        have c6b0 : decide (x3_1 < (l0.length : Int)) = true := decide_eq_true c6
        clear c6
        have HC7 := zaa.mk H
        clear H
        have p263 : 0 ≤ (x3_1 : Int) := of_decide_eq_true (by first | (with_reducible assumption) | assumption)
        have q263 : x3_1 < (l0.length : Int) := of_decide_eq_true (by first | (with_reducible assumption) | assumption)
        obtain ⟨ad263, A263_2, c263_2, A263_3, c263_3, e263, hx263_0, hx263_1, hx263_2, hx263_3, hl263_2, hi263_2, hl263_3, hi263_3⟩ := zdD HR0.out x3_1 p263 q263
        cases e263
        replace hx263_0 := (HB.out.cell (World.block_lt_of_cell? w _ hx263_0)).trans hx263_0
        replace hx263_1 := (HB.out.cell (World.block_lt_of_cell? w _ hx263_1)).trans hx263_1
        replace hx263_2 := (HB.out.cell (World.block_lt_of_cell? w _ hx263_2)).trans hx263_2
        replace hx263_3 := (HB.out.cell (World.block_lt_of_cell? w _ hx263_3)).trans hx263_3
        have HR263_2 := zaa.mk hi263_2
        have HC263_2 := zaa.mk hl263_2
        clear hi263_2 hl263_2
        have HR263_3 := zaa.mk hi263_3
        have HC263_3 := zaa.mk hl263_3
        clear hi263_3 hl263_3
        replace p263 := eq_true p263
        replace q263 := eq_true q263
        go_upto_region 5 with (first | ((with_reducible refine zaL (N := 4) rfl ?_); (try (refine zcl (by rfl) ?_; dsimp only)); refine zbq (N := 4) (cs := #[.string (⟨#[]⟩ : ByteArray), .string (⟨#[]⟩ : ByteArray), .slice none 0 0, .slice none 0 0]) (t := 64) ?_; intro gb264 hg w8 hbox hb; have BK264 := zaa.mk (hbox); have GW264 := zaa.mk (gw hg (bl HB.out) : w.heap.size ≤ gb264); have GE264 := GW264; replace HB := zaa.mk (zan (bl HB.out) hb); clear hb hbox hg; have hcz9_0 : w8.cell? ⟨gb264, 0, none⟩ = some (.string (⟨#[]⟩ : ByteArray)) := (zac BK264.out 0).trans rfl; have hcz9_1 : w8.cell? ⟨gb264, 1, none⟩ = some (.string (⟨#[]⟩ : ByteArray)) := (zac BK264.out 1).trans rfl; have hcz9_2 : w8.cell? ⟨gb264, 2, none⟩ = some (.slice none 0 0) := (zac BK264.out 2).trans rfl; have hcz9_3 : w8.cell? ⟨gb264, 3, none⟩ = some (.slice none 0 0) := (zac BK264.out 3).trans rfl; have hfz9_0 := zab BK264.out 0; have hfz9_1 := zab BK264.out 1; have hfz9_2 := zab BK264.out 2; have hfz9_3 := zab BK264.out 3))
        (try simp only [Act.put, List.setIfInBounds_toArray, List.set_cons_zero, List.set_cons_succ])
        go_cut [47] (fun v47 wc => ∃ (kq : Nat) (x47_6 : Bool), v47 = .bool x47_6 ∧ zaa (zah.j2 kq l0 x3_1 x47_6 ((zar l0 x3_1).f0) ((zar l0 x3_1).f1) ((zar l0 x3_1).f2) ((zar l0 x3_1).f3) = some r) ∧ zaa (kq ≤ kj1) ∧ zaa (wc.heap[gb264]? = some (.cells #[.string ((zar l0 x3_1).f0), .string ((zar l0 x3_1).f1), (.slice A263_2 ((zar l0 x3_1).f2).length c263_2), (.slice A263_3 ((zar l0 x3_1).f3).length c263_3)] 64 (0, 0))) ∧ zaa (Below w.heap.size w wc))
        case first =>
         have H := HC7.out
         clear HC7
         by_cases c10 : (((zar l0 x3_1).f0).size : Int) > 30
         ·
          rw [if_pos c10] at H
          have c10b0 : decide (30 < (((zar l0 x3_1).f0).size : Int)) = true := decide_eq_true c10
          have c10b1 : decide (30 < ((zar l0 x3_1).f0).size) = true := decide_eq_true o9
          clear c10
          (first | rw [c10b0] | (simp only [i64_w, i32_w]; rw [c10b0]) | skip)
          have H' := zaa.mk H
          clear H
          have hcz11_0 : w8.cell? ⟨gb264, 0, none⟩ = some (.string (⟨#[]⟩ : ByteArray)) := (zac BK264.out 0).trans rfl
          have hcz11_1 : w8.cell? ⟨gb264, 1, none⟩ = some (.string (⟨#[]⟩ : ByteArray)) := (zac BK264.out 1).trans rfl
          have hcz11_2 : w8.cell? ⟨gb264, 2, none⟩ = some (.slice none 0 0) := (zac BK264.out 2).trans rfl
          have hcz11_3 : w8.cell? ⟨gb264, 3, none⟩ = some (.slice none 0 0) := (zac BK264.out 3).trans rfl
          have hfz11_0 := zab BK264.out 0
          have hfz11_1 := zab BK264.out 1
          have hfz11_2 := zab BK264.out 2
          have hfz11_3 := zab BK264.out 3
          go_wp2
          go_meet
          case rel => exact ⟨_, (true), (by first | rfl | (simp; done) | (simp [*]; done)), H', ⟨by have := HK1.out; have := HJ1.out; first | omega | exact Nat.le_refl _⟩, ⟨bp BK264.out⟩, ⟨bl HB.out⟩⟩
         ·
          rw [if_neg c10] at H
          have c10b0 : decide (30 < (((zar l0 x3_1).f0).size : Int)) = false := decide_eq_false c10
          have c10b1 : decide (30 < ((zar l0 x3_1).f0).size) = false := decide_eq_false o9
          clear c10
          (first | rw [c10b0] | (simp only [i64_w, i32_w]; rw [c10b0]) | skip)
          by_cases c12 : (((zar l0 x3_1).f1).size : Int) > 30
          ·
           rw [if_pos c12] at H
           have c12b0 : decide (30 < (((zar l0 x3_1).f1).size : Int)) = true := decide_eq_true c12
           have c12b1 : decide (30 < ((zar l0 x3_1).f1).size) = true := decide_eq_true o9
           clear c12
           have H' := zaa.mk H
           clear H
           have hcz13_0 : w8.cell? ⟨gb264, 0, none⟩ = some (.string (⟨#[]⟩ : ByteArray)) := (zac BK264.out 0).trans rfl
           have hcz13_1 : w8.cell? ⟨gb264, 1, none⟩ = some (.string (⟨#[]⟩ : ByteArray)) := (zac BK264.out 1).trans rfl
           have hcz13_2 : w8.cell? ⟨gb264, 2, none⟩ = some (.slice none 0 0) := (zac BK264.out 2).trans rfl
           have hcz13_3 : w8.cell? ⟨gb264, 3, none⟩ = some (.slice none 0 0) := (zac BK264.out 3).trans rfl
           have hfz13_0 := zab BK264.out 0
           have hfz13_1 := zab BK264.out 1
           have hfz13_2 := zab BK264.out 2
           have hfz13_3 := zab BK264.out 3
           go_wp2
           go_meet
           case rel => exact ⟨_, (true), (by first | rfl | (simp; done) | (simp [*]; done)), H', ⟨by have := HK1.out; have := HJ1.out; first | omega | exact Nat.le_refl _⟩, ⟨bp BK264.out⟩, ⟨bl HB.out⟩⟩
          ·
           rw [if_neg c12] at H
           have c12b0 : decide (30 < (((zar l0 x3_1).f1).size : Int)) = false := decide_eq_false c12
           have c12b1 : decide (30 < ((zar l0 x3_1).f1).size) = false := decide_eq_false o9
           clear c12
           by_cases c14 : (((zar l0 x3_1).f2).length : Int) > 7
           ·
            rw [if_pos c14] at H
            have c14b0 : decide (7 < (((zar l0 x3_1).f2).length : Int)) = true := decide_eq_true c14
            have c14b1 : decide (7 < ((zar l0 x3_1).f2).length) = true := decide_eq_true o9
            clear c14
            have H' := zaa.mk H
            clear H
            have hcz15_0 : w8.cell? ⟨gb264, 0, none⟩ = some (.string (⟨#[]⟩ : ByteArray)) := (zac BK264.out 0).trans rfl
            have hcz15_1 : w8.cell? ⟨gb264, 1, none⟩ = some (.string (⟨#[]⟩ : ByteArray)) := (zac BK264.out 1).trans rfl
            have hcz15_2 : w8.cell? ⟨gb264, 2, none⟩ = some (.slice none 0 0) := (zac BK264.out 2).trans rfl
            have hcz15_3 : w8.cell? ⟨gb264, 3, none⟩ = some (.slice none 0 0) := (zac BK264.out 3).trans rfl
            have hfz15_0 := zab BK264.out 0
            have hfz15_1 := zab BK264.out 1
            have hfz15_2 := zab BK264.out 2
            have hfz15_3 := zab BK264.out 3
            go_wp2
            go_meet
            case rel => exact ⟨_, (true), (by first | rfl | (simp; done) | (simp [*]; done)), H', ⟨by have := HK1.out; have := HJ1.out; first | omega | exact Nat.le_refl _⟩, ⟨bp BK264.out⟩, ⟨bl HB.out⟩⟩
           ·
            rw [if_neg c14] at H
            have c14b0 : decide (7 < (((zar l0 x3_1).f2).length : Int)) = false := decide_eq_false c14
            have c14b1 : decide (7 < ((zar l0 x3_1).f2).length) = false := decide_eq_false o9
            clear c14
            by_cases c16 : (((zar l0 x3_1).f3).length : Int) > 7
            ·
             rw [if_pos c16] at H
             have c16b0 : decide (7 < (((zar l0 x3_1).f3).length : Int)) = true := decide_eq_true c16
             have c16b1 : decide (7 < ((zar l0 x3_1).f3).length) = true := decide_eq_true o9
             clear c16
             have H' := zaa.mk H
             clear H
             have hcz17_0 : w8.cell? ⟨gb264, 0, none⟩ = some (.string (⟨#[]⟩ : ByteArray)) := (zac BK264.out 0).trans rfl
             have hcz17_1 : w8.cell? ⟨gb264, 1, none⟩ = some (.string (⟨#[]⟩ : ByteArray)) := (zac BK264.out 1).trans rfl
             have hcz17_2 : w8.cell? ⟨gb264, 2, none⟩ = some (.slice none 0 0) := (zac BK264.out 2).trans rfl
             have hcz17_3 : w8.cell? ⟨gb264, 3, none⟩ = some (.slice none 0 0) := (zac BK264.out 3).trans rfl
             have hfz17_0 := zab BK264.out 0
             have hfz17_1 := zab BK264.out 1
             have hfz17_2 := zab BK264.out 2
             have hfz17_3 := zab BK264.out 3
             go_wp2
             go_meet
             case rel => exact ⟨_, (true), (by first | rfl | (simp; done) | (simp [*]; done)), H', ⟨by have := HK1.out; have := HJ1.out; first | omega | exact Nat.le_refl _⟩, ⟨bp BK264.out⟩, ⟨bl HB.out⟩⟩
            ·
             rw [if_neg c16] at H
             have c16b0 : decide (7 < (((zar l0 x3_1).f3).length : Int)) = false := decide_eq_false c16
             have c16b1 : decide (7 < ((zar l0 x3_1).f3).length) = false := decide_eq_false o9
             clear c16
             replace H := Option.bind_eq_some_iff.mp H
             obtain ⟨t265, A180, H⟩ := H
             replace H : (zah.j2 kj1 l0 x3_1 t265 ((zar l0 x3_1).f0) ((zar l0 x3_1).f1) ((zar l0 x3_1).f2) ((zar l0 x3_1).f3)) = some r := H
             have A18 := zaa.mk A180
             clear A180
             have H' := zaa.mk H
             clear H
             have hcz19_0 : w8.cell? ⟨gb264, 0, none⟩ = some (.string (⟨#[]⟩ : ByteArray)) := (zac BK264.out 0).trans rfl
             have hcz19_1 : w8.cell? ⟨gb264, 1, none⟩ = some (.string (⟨#[]⟩ : ByteArray)) := (zac BK264.out 1).trans rfl
             have hcz19_2 : w8.cell? ⟨gb264, 2, none⟩ = some (.slice none 0 0) := (zac BK264.out 2).trans rfl
             have hcz19_3 : w8.cell? ⟨gb264, 3, none⟩ = some (.slice none 0 0) := (zac BK264.out 3).trans rfl
             have hfz19_0 := zab BK264.out 0
             have hfz19_1 := zab BK264.out 1
             have hfz19_2 := zab BK264.out 2
             have hfz19_3 := zab BK264.out 3
             go_wp2_with (first | (go_at_call 38; (with_reducible refine (zam.calls kj1 _ _ ((zar l0 x3_1).f2) t265 _ ?side1 ?side2 A18.out).mono ?_); (case side1 => exact Kd.zat HR263_2.out (bl HB.out)); (case side2 => exact HC263_2.out); rintro e w' ⟨rfl, ⟨nd, rfl⟩⟩))
             go_meet
             case rel => exact ⟨_, (t265), (by first | rfl | (simp; done) | (simp [*]; done)), H', ⟨by have := HK1.out; have := HJ1.out; first | omega | exact Nat.le_refl _⟩, ⟨bp BK264.out⟩, ⟨bl HB.out⟩⟩
        case rest =>
         clear HC7
         try clear c1
         try clear c2
         try clear p2
         try clear q2
         try clear hx2
         try clear c3
         try clear c3b0
         try clear c4
         try clear c5
         try clear c5b0
         try clear c6
         try clear c6b0
         try clear c10
         try clear c10b0
         try clear c10b1
         try clear c12
         try clear c12b0
         try clear c12b1
         try clear c14
         try clear c14b0
         try clear c14b1
         try clear c16
         try clear c16b0
         try clear c16b1
         try clear c19
         try clear hcz11_0
         try clear hcz11_1
         try clear hcz11_2
         try clear hcz11_3
         try clear hcz13_0
         try clear hcz13_1
         try clear hcz13_2
         try clear hcz13_3
         try clear hcz15_0
         try clear hcz15_1
         try clear hcz15_2
         try clear hcz15_3
         try clear hcz17_0
         try clear hcz17_1
         try clear hcz17_2
         try clear hcz17_3
         try clear hcz19_0
         try clear hcz19_1
         try clear hcz19_2
         try clear hcz19_3
         try clear hcz9_0
         try clear hcz9_1
         try clear hcz9_2
         try clear hcz9_3
         try clear hfz11_0
         try clear hfz11_1
         try clear hfz11_2
         try clear hfz11_3
         try clear hfz13_0
         try clear hfz13_1
         try clear hfz13_2
         try clear hfz13_3
         try clear hfz15_0
         try clear hfz15_1
         try clear hfz15_2
         try clear hfz15_3
         try clear hfz17_0
         try clear hfz17_1
         try clear hfz17_2
         try clear hfz17_3
         try clear hfz19_0
         try clear hfz19_1
         try clear hfz19_2
         try clear hfz19_3
         try clear hfz9_0
         try clear hfz9_1
         try clear hfz9_2
         try clear hfz9_3
         try clear hx263_0
         try clear hx263_1
         try clear hx263_2
         try clear hx263_3
         try clear p2
         try clear p263
         try clear q263
         obtain ⟨kq, x47_6, rfl, HA, HJ6, BK264, HB⟩ := hcut
         cases kq with
         | zero => exact absurd HA.out (by simp [zah.j2])
         | succ kj6 =>
          have H := HA.out
          clear HA
          simp only [zah.j2] at H
          by_cases c20 : x47_6 = true
          ·
           subst c20
           have H1 : (some true) = some r := by rw [if_pos rfl] at H; exact H
           clear H
           have H := H1
           clear H1
           obtain rfl := Option.some.inj H
           go_wp2
           go_ret
           exact ⟨by first | rfl | (simp [zaz, zaA] <;> rfl) | (simp [*, zaz, zaA] <;> rfl), bl HB.out⟩
          ·
           replace c20 := Bool.eq_false_iff.mpr c20
           subst c20
           have H1 : (zah.l1 kj6 l0 x3_1 0 ((zar l0 x3_1).f0) ((zar l0 x3_1).f1) ((zar l0 x3_1).f2) ((zar l0 x3_1).f3)) = some r := by rw [if_neg (show ¬ (false = true) by decide)] at H; exact H
           clear H
           have H := H1
           clear H1
           have H' := zaa.mk H
           clear H
           go_wp2
           go_loopg [5] kj6 (fun kq v5 w' => ∃ (x5_4 : Int), v5 = .int .i64 x5_4 ∧ zaa (zah.l1 kq l0 x3_1 x5_4 ((zar l0 x3_1).f0) ((zar l0 x3_1).f1) ((zar l0 x3_1).f2) ((zar l0 x3_1).f3) = some r) ∧ zaa (kq ≤ kj6) ∧ zaa (w'.heap[gb264]? = some (.cells #[.string ((zar l0 x3_1).f0), .string ((zar l0 x3_1).f1), (.slice A263_2 ((zar l0 x3_1).f2).length c263_2), (.slice A263_3 ((zar l0 x3_1).f3).length c263_3)] 64 (0, 0))) ∧ zaa (Below w.heap.size w w'))
           case atStart => exact ⟨(0), (by first | rfl | (simp; done) | (simp [*]; done)), H', ⟨Nat.le_refl _⟩, ⟨bk BK264.out⟩, ⟨bl HB.out⟩⟩
           case round =>
            clear H'
            try clear c1
            try clear c2
            try clear p2
            try clear q2
            try clear hx2
            try clear c3
            try clear c3b0
            try clear c4
            try clear c5
            try clear c5b0
            try clear c6
            try clear c6b0
            try clear c10
            try clear c10b0
            try clear c10b1
            try clear c12
            try clear c12b0
            try clear c12b1
            try clear c14
            try clear c14b0
            try clear c14b1
            try clear c16
            try clear c16b0
            try clear c16b1
            try clear c19
            try clear c20
            try clear hcz11_0
            try clear hcz11_1
            try clear hcz11_2
            try clear hcz11_3
            try clear hcz13_0
            try clear hcz13_1
            try clear hcz13_2
            try clear hcz13_3
            try clear hcz15_0
            try clear hcz15_1
            try clear hcz15_2
            try clear hcz15_3
            try clear hcz17_0
            try clear hcz17_1
            try clear hcz17_2
            try clear hcz17_3
            try clear hcz19_0
            try clear hcz19_1
            try clear hcz19_2
            try clear hcz19_3
            try clear hcz9_0
            try clear hcz9_1
            try clear hcz9_2
            try clear hcz9_3
            try clear hfz11_0
            try clear hfz11_1
            try clear hfz11_2
            try clear hfz11_3
            try clear hfz13_0
            try clear hfz13_1
            try clear hfz13_2
            try clear hfz13_3
            try clear hfz15_0
            try clear hfz15_1
            try clear hfz15_2
            try clear hfz15_3
            try clear hfz17_0
            try clear hfz17_1
            try clear hfz17_2
            try clear hfz17_3
            try clear hfz19_0
            try clear hfz19_1
            try clear hfz19_2
            try clear hfz19_3
            try clear hfz9_0
            try clear hfz9_1
            try clear hfz9_2
            try clear hfz9_3
            try clear hx263_0
            try clear hx263_1
            try clear hx263_2
            try clear hx263_3
            try clear p2
            try clear p263
            try clear q2
            try clear q263
            obtain ⟨x5_4, rfl, HA, HK4, BK264, HB⟩ := hrel
            cases gk with
            | zero => exact absurd HA.out (by simp [zah.l1])
            | succ k4 =>
             have H := HA.out
             clear HA
             simp only [zah.l1] at H
             by_cases c21 : x5_4 < (((zar l0 x3_1).f3).length : Int)
             ·
              rw [if_pos c21] at H
              have c21b0 : decide (x5_4 < (((zar l0 x3_1).f3).length : Int)) = true := decide_eq_true c21
              clear c21
              by_cases c22 : 0 ≤ x5_4
              ·
               rw [if_pos c22] at H
               have c22b0 : decide (0 ≤ x5_4) = true := decide_eq_true c22
               clear c22
               by_cases c23 : (((za6 ((zar l0 x3_1).f3) x5_4).f0).size : Int) > 30
               ·
                rw [if_pos c23] at H
                have c23b0 : decide (30 < (((za6 ((zar l0 x3_1).f3) x5_4).f0).size : Int)) = true := decide_eq_true c23
                have c23b1 : decide (30 < ((za6 ((zar l0 x3_1).f3) x5_4).f0).size) = true := decide_eq_true o9
                clear c23
                obtain rfl := Option.some.inj H
                have hcz24_0 : wr.cell? ⟨gb264, 0, none⟩ = some (.string ((zar l0 x3_1).f0)) := (zac BK264.out 0).trans rfl
                have hcz24_1 : wr.cell? ⟨gb264, 1, none⟩ = some (.string ((zar l0 x3_1).f1)) := (zac BK264.out 1).trans rfl
                have hcz24_2 : wr.cell? ⟨gb264, 2, none⟩ = some (.slice A263_2 ((zar l0 x3_1).f2).length c263_2) := (zac BK264.out 2).trans rfl
                have hcz24_3 : wr.cell? ⟨gb264, 3, none⟩ = some (.slice A263_3 ((zar l0 x3_1).f3).length c263_3) := (zac BK264.out 3).trans rfl
                have hfz24_0 := zab BK264.out 0
                have hfz24_1 := zab BK264.out 1
                have hfz24_2 := zab BK264.out 2
                have hfz24_3 := zab BK264.out 3
                have p266 : 0 ≤ (x5_4 : Int) := of_decide_eq_true (by first | (with_reducible assumption) | assumption)
                have q266 : x5_4 < (((zar l0 x3_1).f3).length : Int) := of_decide_eq_true (by first | (with_reducible assumption) | assumption)
                obtain ⟨ad266, A266_1, c266_1, e266, hx266_0, hx266_1, hx266_2, hl266_1, hi266_1⟩ := zdM HR263_3.out x5_4 p266 q266
                cases e266
                replace hx266_0 := (HB.out.cell (World.block_lt_of_cell? w _ hx266_0)).trans hx266_0
                replace hx266_1 := (HB.out.cell (World.block_lt_of_cell? w _ hx266_1)).trans hx266_1
                replace hx266_2 := (HB.out.cell (World.block_lt_of_cell? w _ hx266_2)).trans hx266_2
                have HR266_1 := zaa.mk hi266_1
                have HC266_1 := zaa.mk hl266_1
                clear hi266_1 hl266_1
                replace p266 := eq_true p266
                replace q266 := eq_true q266
                go_wp2_with (first | ((with_reducible refine zaL (N := 6) rfl ?_); (try (refine zcl (by rfl) ?_; dsimp only)); refine zbq (N := 6) (cs := #[.string (⟨#[]⟩ : ByteArray), .slice none 0 0, .string (⟨#[]⟩ : ByteArray)]) (t := 61) ?_; intro gb267 hg w25 hbox hb; have BK267 := zaa.mk (hbox); have GW267 := zaa.mk (gw hg (bl HB.out) : w.heap.size ≤ gb267); have GE267 := GW267; have NB264_267 := zaa.mk (nl hg BK264.out : gb264 ≠ gb267); have NB267_264 := zaa.mk (ng hg BK264.out : gb267 ≠ gb264); replace BK264 := zaa.mk (zaq (bk BK264.out) hb); replace HB := zaa.mk (zan (bl HB.out) hb); clear hb hbox hg; have hnb26 := NB267_264.out; have hnc26 := NB264_267.out; have hcz27_0 : w25.cell? ⟨gb267, 0, none⟩ = some (.string (⟨#[]⟩ : ByteArray)) := (zac BK267.out 0).trans rfl; have hcz27_1 : w25.cell? ⟨gb267, 1, none⟩ = some (.slice none 0 0) := (zac BK267.out 1).trans rfl; have hcz27_2 : w25.cell? ⟨gb267, 2, none⟩ = some (.string (⟨#[]⟩ : ByteArray)) := (zac BK267.out 2).trans rfl; have hfz27_0 := zab BK267.out 0; have hfz27_1 := zab BK267.out 1; have hfz27_2 := zab BK267.out 2))
                go_ret
                exact ⟨by first | rfl | (simp [zaz, zaA] <;> rfl) | (simp [*, zaz, zaA] <;> rfl), bl HB.out⟩
               ·
                rw [if_neg c23] at H
                have c23b0 : decide (30 < (((za6 ((zar l0 x3_1).f3) x5_4).f0).size : Int)) = false := decide_eq_false c23
                have c23b1 : decide (30 < ((za6 ((zar l0 x3_1).f3) x5_4).f0).size) = false := decide_eq_false o9
                clear c23
                by_cases c28 : (((za6 ((zar l0 x3_1).f3) x5_4).f2).size : Int) > 30
                ·
                 rw [if_pos c28] at H
                 have c28b0 : decide (30 < (((za6 ((zar l0 x3_1).f3) x5_4).f2).size : Int)) = true := decide_eq_true c28
                 have c28b1 : decide (30 < ((za6 ((zar l0 x3_1).f3) x5_4).f2).size) = true := decide_eq_true o9
                 clear c28
                 obtain rfl := Option.some.inj H
                 have hcz29_0 : wr.cell? ⟨gb264, 0, none⟩ = some (.string ((zar l0 x3_1).f0)) := (zac BK264.out 0).trans rfl
                 have hcz29_1 : wr.cell? ⟨gb264, 1, none⟩ = some (.string ((zar l0 x3_1).f1)) := (zac BK264.out 1).trans rfl
                 have hcz29_2 : wr.cell? ⟨gb264, 2, none⟩ = some (.slice A263_2 ((zar l0 x3_1).f2).length c263_2) := (zac BK264.out 2).trans rfl
                 have hcz29_3 : wr.cell? ⟨gb264, 3, none⟩ = some (.slice A263_3 ((zar l0 x3_1).f3).length c263_3) := (zac BK264.out 3).trans rfl
                 have hfz29_0 := zab BK264.out 0
                 have hfz29_1 := zab BK264.out 1
                 have hfz29_2 := zab BK264.out 2
                 have hfz29_3 := zab BK264.out 3
                 have p266 : 0 ≤ (x5_4 : Int) := of_decide_eq_true (by first | (with_reducible assumption) | assumption)
                 have q266 : x5_4 < (((zar l0 x3_1).f3).length : Int) := of_decide_eq_true (by first | (with_reducible assumption) | assumption)
                 obtain ⟨ad266, A266_1, c266_1, e266, hx266_0, hx266_1, hx266_2, hl266_1, hi266_1⟩ := zdM HR263_3.out x5_4 p266 q266
                 cases e266
                 replace hx266_0 := (HB.out.cell (World.block_lt_of_cell? w _ hx266_0)).trans hx266_0
                 replace hx266_1 := (HB.out.cell (World.block_lt_of_cell? w _ hx266_1)).trans hx266_1
                 replace hx266_2 := (HB.out.cell (World.block_lt_of_cell? w _ hx266_2)).trans hx266_2
                 have HR266_1 := zaa.mk hi266_1
                 have HC266_1 := zaa.mk hl266_1
                 clear hi266_1 hl266_1
                 replace p266 := eq_true p266
                 replace q266 := eq_true q266
                 go_wp2_with (first | ((with_reducible refine zaL (N := 6) rfl ?_); (try (refine zcl (by rfl) ?_; dsimp only)); refine zbq (N := 6) (cs := #[.string (⟨#[]⟩ : ByteArray), .slice none 0 0, .string (⟨#[]⟩ : ByteArray)]) (t := 61) ?_; intro gb267 hg w30 hbox hb; have BK267 := zaa.mk (hbox); have GW267 := zaa.mk (gw hg (bl HB.out) : w.heap.size ≤ gb267); have GE267 := GW267; have NB264_267 := zaa.mk (nl hg BK264.out : gb264 ≠ gb267); have NB267_264 := zaa.mk (ng hg BK264.out : gb267 ≠ gb264); replace BK264 := zaa.mk (zaq (bk BK264.out) hb); replace HB := zaa.mk (zan (bl HB.out) hb); clear hb hbox hg; have hnb31 := NB267_264.out; have hnc31 := NB264_267.out; have hcz32_0 : w30.cell? ⟨gb267, 0, none⟩ = some (.string (⟨#[]⟩ : ByteArray)) := (zac BK267.out 0).trans rfl; have hcz32_1 : w30.cell? ⟨gb267, 1, none⟩ = some (.slice none 0 0) := (zac BK267.out 1).trans rfl; have hcz32_2 : w30.cell? ⟨gb267, 2, none⟩ = some (.string (⟨#[]⟩ : ByteArray)) := (zac BK267.out 2).trans rfl; have hfz32_0 := zab BK267.out 0; have hfz32_1 := zab BK267.out 1; have hfz32_2 := zab BK267.out 2))
                 go_ret
                 exact ⟨by first | rfl | (simp [zaz, zaA] <;> rfl) | (simp [*, zaz, zaA] <;> rfl), bl HB.out⟩
                ·
                 rw [if_neg c28] at H
                 have c28b0 : decide (30 < (((za6 ((zar l0 x3_1).f3) x5_4).f2).size : Int)) = false := decide_eq_false c28
                 have c28b1 : decide (30 < ((za6 ((zar l0 x3_1).f3) x5_4).f2).size) = false := decide_eq_false o9
                 clear c28
                 by_cases c33 : (((za6 ((zar l0 x3_1).f3) x5_4).f1).length : Int) > 10
                 ·
                  rw [if_pos c33] at H
                  have c33b0 : decide (10 < (((za6 ((zar l0 x3_1).f3) x5_4).f1).length : Int)) = true := decide_eq_true c33
                  have c33b1 : decide (10 < ((za6 ((zar l0 x3_1).f3) x5_4).f1).length) = true := decide_eq_true o9
                  clear c33
                  obtain rfl := Option.some.inj H
                  have hcz34_0 : wr.cell? ⟨gb264, 0, none⟩ = some (.string ((zar l0 x3_1).f0)) := (zac BK264.out 0).trans rfl
                  have hcz34_1 : wr.cell? ⟨gb264, 1, none⟩ = some (.string ((zar l0 x3_1).f1)) := (zac BK264.out 1).trans rfl
                  have hcz34_2 : wr.cell? ⟨gb264, 2, none⟩ = some (.slice A263_2 ((zar l0 x3_1).f2).length c263_2) := (zac BK264.out 2).trans rfl
                  have hcz34_3 : wr.cell? ⟨gb264, 3, none⟩ = some (.slice A263_3 ((zar l0 x3_1).f3).length c263_3) := (zac BK264.out 3).trans rfl
                  have hfz34_0 := zab BK264.out 0
                  have hfz34_1 := zab BK264.out 1
                  have hfz34_2 := zab BK264.out 2
                  have hfz34_3 := zab BK264.out 3
                  have p266 : 0 ≤ (x5_4 : Int) := of_decide_eq_true (by first | (with_reducible assumption) | assumption)
                  have q266 : x5_4 < (((zar l0 x3_1).f3).length : Int) := of_decide_eq_true (by first | (with_reducible assumption) | assumption)
                  obtain ⟨ad266, A266_1, c266_1, e266, hx266_0, hx266_1, hx266_2, hl266_1, hi266_1⟩ := zdM HR263_3.out x5_4 p266 q266
                  cases e266
                  replace hx266_0 := (HB.out.cell (World.block_lt_of_cell? w _ hx266_0)).trans hx266_0
                  replace hx266_1 := (HB.out.cell (World.block_lt_of_cell? w _ hx266_1)).trans hx266_1
                  replace hx266_2 := (HB.out.cell (World.block_lt_of_cell? w _ hx266_2)).trans hx266_2
                  have HR266_1 := zaa.mk hi266_1
                  have HC266_1 := zaa.mk hl266_1
                  clear hi266_1 hl266_1
                  replace p266 := eq_true p266
                  replace q266 := eq_true q266
                  go_wp2_with (first | ((with_reducible refine zaL (N := 6) rfl ?_); (try (refine zcl (by rfl) ?_; dsimp only)); refine zbq (N := 6) (cs := #[.string (⟨#[]⟩ : ByteArray), .slice none 0 0, .string (⟨#[]⟩ : ByteArray)]) (t := 61) ?_; intro gb267 hg w35 hbox hb; have BK267 := zaa.mk (hbox); have GW267 := zaa.mk (gw hg (bl HB.out) : w.heap.size ≤ gb267); have GE267 := GW267; have NB264_267 := zaa.mk (nl hg BK264.out : gb264 ≠ gb267); have NB267_264 := zaa.mk (ng hg BK264.out : gb267 ≠ gb264); replace BK264 := zaa.mk (zaq (bk BK264.out) hb); replace HB := zaa.mk (zan (bl HB.out) hb); clear hb hbox hg; have hnb36 := NB267_264.out; have hnc36 := NB264_267.out; have hcz37_0 : w35.cell? ⟨gb267, 0, none⟩ = some (.string (⟨#[]⟩ : ByteArray)) := (zac BK267.out 0).trans rfl; have hcz37_1 : w35.cell? ⟨gb267, 1, none⟩ = some (.slice none 0 0) := (zac BK267.out 1).trans rfl; have hcz37_2 : w35.cell? ⟨gb267, 2, none⟩ = some (.string (⟨#[]⟩ : ByteArray)) := (zac BK267.out 2).trans rfl; have hfz37_0 := zab BK267.out 0; have hfz37_1 := zab BK267.out 1; have hfz37_2 := zab BK267.out 2))
                  go_ret
                  exact ⟨by first | rfl | (simp [zaz, zaA] <;> rfl) | (simp [*, zaz, zaA] <;> rfl), bl HB.out⟩
                 ·
                  rw [if_neg c33] at H
                  have c33b0 : decide (10 < (((za6 ((zar l0 x3_1).f3) x5_4).f1).length : Int)) = false := decide_eq_false c33
                  have c33b1 : decide (10 < ((za6 ((zar l0 x3_1).f3) x5_4).f1).length) = false := decide_eq_false o9
                  clear c33
                  replace H := Option.bind_eq_some_iff.mp H
                  obtain ⟨t268, A380, H⟩ := H
                  replace H : (if t268 = true then (some true) else (zah.l1 k4 l0 x3_1 (wrap64 (x5_4 + 1)) ((zar l0 x3_1).f0) ((zar l0 x3_1).f1) ((zar l0 x3_1).f2) ((zar l0 x3_1).f3))) = some r := H
                  have A38 := zaa.mk A380
                  clear A380
                  by_cases c39 : t268 = true
                  ·
                   subst c39
                   have H1 : (some true) = some r := by rw [if_pos rfl] at H; exact H
                   clear H
                   have H := H1
                   clear H1
                   obtain rfl := Option.some.inj H
                   have hcz40_0 : wr.cell? ⟨gb264, 0, none⟩ = some (.string ((zar l0 x3_1).f0)) := (zac BK264.out 0).trans rfl
                   have hcz40_1 : wr.cell? ⟨gb264, 1, none⟩ = some (.string ((zar l0 x3_1).f1)) := (zac BK264.out 1).trans rfl
                   have hcz40_2 : wr.cell? ⟨gb264, 2, none⟩ = some (.slice A263_2 ((zar l0 x3_1).f2).length c263_2) := (zac BK264.out 2).trans rfl
                   have hcz40_3 : wr.cell? ⟨gb264, 3, none⟩ = some (.slice A263_3 ((zar l0 x3_1).f3).length c263_3) := (zac BK264.out 3).trans rfl
                   have hfz40_0 := zab BK264.out 0
                   have hfz40_1 := zab BK264.out 1
                   have hfz40_2 := zab BK264.out 2
                   have hfz40_3 := zab BK264.out 3
                   have p266 : 0 ≤ (x5_4 : Int) := of_decide_eq_true (by first | (with_reducible assumption) | assumption)
                   have q266 : x5_4 < (((zar l0 x3_1).f3).length : Int) := of_decide_eq_true (by first | (with_reducible assumption) | assumption)
                   obtain ⟨ad266, A266_1, c266_1, e266, hx266_0, hx266_1, hx266_2, hl266_1, hi266_1⟩ := zdM HR263_3.out x5_4 p266 q266
                   cases e266
                   replace hx266_0 := (HB.out.cell (World.block_lt_of_cell? w _ hx266_0)).trans hx266_0
                   replace hx266_1 := (HB.out.cell (World.block_lt_of_cell? w _ hx266_1)).trans hx266_1
                   replace hx266_2 := (HB.out.cell (World.block_lt_of_cell? w _ hx266_2)).trans hx266_2
                   have HR266_1 := zaa.mk hi266_1
                   have HC266_1 := zaa.mk hl266_1
                   clear hi266_1 hl266_1
                   replace p266 := eq_true p266
                   replace q266 := eq_true q266
                   go_wp2_with (first | ((with_reducible refine zaL (N := 6) rfl ?_); (try (refine zcl (by rfl) ?_; dsimp only)); refine zbq (N := 6) (cs := #[.string (⟨#[]⟩ : ByteArray), .slice none 0 0, .string (⟨#[]⟩ : ByteArray)]) (t := 61) ?_; intro gb267 hg w41 hbox hb; have BK267 := zaa.mk (hbox); have GW267 := zaa.mk (gw hg (bl HB.out) : w.heap.size ≤ gb267); have GE267 := GW267; have NB264_267 := zaa.mk (nl hg BK264.out : gb264 ≠ gb267); have NB267_264 := zaa.mk (ng hg BK264.out : gb267 ≠ gb264); replace BK264 := zaa.mk (zaq (bk BK264.out) hb); replace HB := zaa.mk (zan (bl HB.out) hb); clear hb hbox hg; have hnb42 := NB267_264.out; have hnc42 := NB264_267.out; have hcz43_0 : w41.cell? ⟨gb267, 0, none⟩ = some (.string (⟨#[]⟩ : ByteArray)) := (zac BK267.out 0).trans rfl; have hcz43_1 : w41.cell? ⟨gb267, 1, none⟩ = some (.slice none 0 0) := (zac BK267.out 1).trans rfl; have hcz43_2 : w41.cell? ⟨gb267, 2, none⟩ = some (.string (⟨#[]⟩ : ByteArray)) := (zac BK267.out 2).trans rfl; have hfz43_0 := zab BK267.out 0; have hfz43_1 := zab BK267.out 1; have hfz43_2 := zab BK267.out 2) | (go_at_call 38; (with_reducible refine (zam.calls k4 _ _ ((za6 ((zar l0 x3_1).f3) x5_4).f1) true _ ?side1 ?side2 A38.out).mono ?_); (case side1 => exact Kd.zat HR266_1.out (bl HB.out)); (case side2 => exact HC266_1.out); rintro e w' ⟨rfl, ⟨nd, rfl⟩⟩))
                   go_ret
                   exact ⟨by first | rfl | (simp [zaz, zaA] <;> rfl) | (simp [*, zaz, zaA] <;> rfl), bl HB.out⟩
                  ·
                   replace c39 := Bool.eq_false_iff.mpr c39
                   subst c39
                   have H1 : (zah.l1 k4 l0 x3_1 (wrap64 (x5_4 + 1)) ((zar l0 x3_1).f0) ((zar l0 x3_1).f1) ((zar l0 x3_1).f2) ((zar l0 x3_1).f3)) = some r := by rw [if_neg (show ¬ (false = true) by decide)] at H; exact H
                   clear H
                   have H := H1
                   clear H1
                   have H' := zaa.mk H
                   clear H
                   have hcz44_0 : wr.cell? ⟨gb264, 0, none⟩ = some (.string ((zar l0 x3_1).f0)) := (zac BK264.out 0).trans rfl
                   have hcz44_1 : wr.cell? ⟨gb264, 1, none⟩ = some (.string ((zar l0 x3_1).f1)) := (zac BK264.out 1).trans rfl
                   have hcz44_2 : wr.cell? ⟨gb264, 2, none⟩ = some (.slice A263_2 ((zar l0 x3_1).f2).length c263_2) := (zac BK264.out 2).trans rfl
                   have hcz44_3 : wr.cell? ⟨gb264, 3, none⟩ = some (.slice A263_3 ((zar l0 x3_1).f3).length c263_3) := (zac BK264.out 3).trans rfl
                   have hfz44_0 := zab BK264.out 0
                   have hfz44_1 := zab BK264.out 1
                   have hfz44_2 := zab BK264.out 2
                   have hfz44_3 := zab BK264.out 3
                   have p266 : 0 ≤ (x5_4 : Int) := of_decide_eq_true (by first | (with_reducible assumption) | assumption)
                   have q266 : x5_4 < (((zar l0 x3_1).f3).length : Int) := of_decide_eq_true (by first | (with_reducible assumption) | assumption)
                   obtain ⟨ad266, A266_1, c266_1, e266, hx266_0, hx266_1, hx266_2, hl266_1, hi266_1⟩ := zdM HR263_3.out x5_4 p266 q266
                   cases e266
                   replace hx266_0 := (HB.out.cell (World.block_lt_of_cell? w _ hx266_0)).trans hx266_0
                   replace hx266_1 := (HB.out.cell (World.block_lt_of_cell? w _ hx266_1)).trans hx266_1
                   replace hx266_2 := (HB.out.cell (World.block_lt_of_cell? w _ hx266_2)).trans hx266_2
                   have HR266_1 := zaa.mk hi266_1
                   have HC266_1 := zaa.mk hl266_1
                   clear hi266_1 hl266_1
                   replace p266 := eq_true p266
                   replace q266 := eq_true q266
                   go_wp2_with (first | ((with_reducible refine zaL (N := 6) rfl ?_); (try (refine zcl (by rfl) ?_; dsimp only)); refine zbq (N := 6) (cs := #[.string (⟨#[]⟩ : ByteArray), .slice none 0 0, .string (⟨#[]⟩ : ByteArray)]) (t := 61) ?_; intro gb267 hg w45 hbox hb; have BK267 := zaa.mk (hbox); have GW267 := zaa.mk (gw hg (bl HB.out) : w.heap.size ≤ gb267); have GE267 := GW267; have NB264_267 := zaa.mk (nl hg BK264.out : gb264 ≠ gb267); have NB267_264 := zaa.mk (ng hg BK264.out : gb267 ≠ gb264); replace BK264 := zaa.mk (zaq (bk BK264.out) hb); replace HB := zaa.mk (zan (bl HB.out) hb); clear hb hbox hg; have hnb46 := NB267_264.out; have hnc46 := NB264_267.out; have hcz47_0 : w45.cell? ⟨gb267, 0, none⟩ = some (.string (⟨#[]⟩ : ByteArray)) := (zac BK267.out 0).trans rfl; have hcz47_1 : w45.cell? ⟨gb267, 1, none⟩ = some (.slice none 0 0) := (zac BK267.out 1).trans rfl; have hcz47_2 : w45.cell? ⟨gb267, 2, none⟩ = some (.string (⟨#[]⟩ : ByteArray)) := (zac BK267.out 2).trans rfl; have hfz47_0 := zab BK267.out 0; have hfz47_1 := zab BK267.out 1; have hfz47_2 := zab BK267.out 2) | (go_at_call 38; (with_reducible refine (zam.calls k4 _ _ ((za6 ((zar l0 x3_1).f3) x5_4).f1) false _ ?side1 ?side2 A38.out).mono ?_); (case side1 => exact Kd.zat HR266_1.out (bl HB.out)); (case side2 => exact HC266_1.out); rintro e w' ⟨rfl, ⟨nd, rfl⟩⟩))
                   go_roundg k4
                   case measure => have := HK1.out; have := HJ1.out; have := HJ6.out; have := HK4.out; omega
                   case rel => exact ⟨(wrap64 (x5_4 + 1)), (by first | rfl | (simp; done) | (simp [*]; done)), H', ⟨by have := HK1.out; have := HJ1.out; have := HJ6.out; have := HK4.out; omega⟩, ⟨bp BK264.out⟩, ⟨bl HB.out⟩⟩
              ·
               rw [if_neg c22] at H
               exact absurd H s9
             ·
              rw [if_neg c21] at H
              have c21b0 : decide (x5_4 < (((zar l0 x3_1).f3).length : Int)) = false := decide_eq_false c21
              clear c21
              have H' := zaa.mk H
              clear H
              have hcz48_0 : wr.cell? ⟨gb264, 0, none⟩ = some (.string ((zar l0 x3_1).f0)) := (zac BK264.out 0).trans rfl
              have hcz48_1 : wr.cell? ⟨gb264, 1, none⟩ = some (.string ((zar l0 x3_1).f1)) := (zac BK264.out 1).trans rfl
              have hcz48_2 : wr.cell? ⟨gb264, 2, none⟩ = some (.slice A263_2 ((zar l0 x3_1).f2).length c263_2) := (zac BK264.out 2).trans rfl
              have hcz48_3 : wr.cell? ⟨gb264, 3, none⟩ = some (.slice A263_3 ((zar l0 x3_1).f3).length c263_3) := (zac BK264.out 3).trans rfl
              have hfz48_0 := zab BK264.out 0
              have hfz48_1 := zab BK264.out 1
              have hfz48_2 := zab BK264.out 2
              have hfz48_3 := zab BK264.out 3
              go_wp2
              go_roundg k4
              case measure => have := HK1.out; have := HJ1.out; have := HJ6.out; have := HK4.out; omega
              case rel => exact ⟨(wrap64 (x3_1 + 1)), (by first | rfl | (simp; done) | (simp [*]; done)), H', ⟨by have := HK1.out; have := HJ1.out; have := HJ6.out; have := HK4.out; omega⟩, ⟨bl HB.out⟩⟩
       ·
        rw [if_neg c6] at H
        exact absurd H s9
      ·
       rw [if_neg c5] at H
       exact absurd H s9
     ·
      replace c4 := Bool.eq_false_iff.mpr c4
      subst c4
      have H1 : (some (decide ((l0.length : Int) > 9))) = some r := by rw [if_neg (show ¬ (false = true) by decide)] at H; exact H
      clear H
      have H := H1
      clear H1
      obtain rfl := Option.some.inj H
      go_wp2
      go_ret
      exact ⟨by first | rfl | (simp [zaz, zaA] <;> rfl) | (simp [*, zaz, zaA] <;> rfl), bl HB.out⟩
end Go.Proofs.Ytinkbljjpafadaa.PAll
end
