/- Parts of the proof of one statement, packed: what the program's functions compute. No conditions. -/
import Derived.Test.YtfhgmebhdchegaaDoorKCK1
import Derived.Test.YtfhgmebhdchegaaDoorKCK2
import Derived.Stop.RegionWithIn
set_option linter.unusedSimpArgs false
set_option linter.unusedVariables false
set_option maxRecDepth 100000
set_option maxHeartbeats 8000000
section
namespace Go.Proofs.YtfhgmebhdchegaaDoor.PAll
open Go.RowKit Go.Proofs.YtfhgmebhdchegaaDoorW.zai Go.Proofs.YtfhgmebhdchegaaDoorW.zas Go.Proofs.YtfhgmebhdchegaaDoorW.za5
attribute [local go_sem] zbg zbh zbt zbs za7 za8 zbf zbi
def zan.f (a0 : ByteArray) (a1 : ByteArray) (a2 : ByteArray) : Option (ByteArray × (List (S48)) × ByteArray) := if a1.toList = ([] : List UInt8) then (some (a0, ([] : List (S48)), a2)) else (some (a0, (([(⟨(⟨#[97]⟩ : ByteArray), a1⟩ : S48)] : List (S48))), a2))
theorem zan.calls (a0 : ByteArray) (a1 : ByteArray) (a2 : ByteArray) (r1 : ByteArray) (r2 : List (S48)) (r3 : ByteArray) (w : World) (h : zan.f a0 a1 a2 = some (r1, r2, r3)) :
  Calls Tryd.prog 22 #[.string a0, .string a1, .string a2] w fun e w' => ∃ v1_ : Value, e = .returned (.agg #[.string r1, v1_, .string r3]) ∧ Kd.R k48 48 w' w.heap.size (fun _ => True) v1_ r2 ∧ Below w.heap.size w w' := by
 have hu51 := Tryd.underlying51
 have hu48 := Tryd.underlying48
 have HB := zaa.mk (Below.refl w.heap.size w)
 have H : (if a1.toList = ([] : List UInt8) then (some (a0, ([] : List (S48)), a2)) else (some (a0, (([(⟨(⟨#[97]⟩ : ByteArray), a1⟩ : S48)] : List (S48))), a2))) = some (r1, r2, r3) := h
 clear h
 by_cases c4 : a1.toList = ([] : List UInt8)
 ·
  rw [if_pos c4] at H
  have c4b0 : (a1.toList == ([] : List UInt8)) = true := beq_iff_eq.mpr c4
  have c4b1 : (a1.toList != ([] : List UInt8)) = false := bne_eq_false_iff_eq.mpr c4
  clear c4
  simp only [Option.some.injEq, Prod.mk.injEq] at H
  obtain ⟨rfl, rfl, rfl⟩ := H
  go_enter Tryd.func22, Tryd.ntmps22
  go_wp2_with (first | ((with_reducible refine za6 (N := 6) rfl ?_); refine zbE ?hg (N := 6) ?hd (cs := #[.string (⟨#[]⟩ : ByteArray), .slice none 0 0, .string (⟨#[]⟩ : ByteArray)]) (t := 51) ?hr ?_; (case hd => rfl); (case hg => rfl); (case hr => first | (go_simp; done) | (go_simp; rfl)); intro gb101 hg w5 hbox hb; have n0_ := zaa.mk (zaj (by repeat (first | (with_reducible first | exact HB.out | apply zad | apply zab | apply zae) | exact HB.out)) hb); have n1_ := zaa.mk (hbox); have n2_ := zaa.mk ((by rw [hg]; exact (zaq (by repeat (first | (with_reducible first | exact HB.out | apply zad | apply zab | apply zae) | exact HB.out))) : w.heap.size ≤ gb101)); have n3_ := zaa.mk ((by rw [hg]; exact (zaq (by repeat (first | (with_reducible first | exact HB.out | apply zad | apply zab | apply zae) | exact HB.out))) : w.heap.size ≤ gb101)); clear HB; have HB := n0_; have BK101 := n1_; have GW101 := n2_; have GE101 := n3_; clear n0_ n1_ n2_ n3_; clear hb hbox hg) | ((with_reducible refine za6 (N := 7) rfl ?_); refine zbE ?hg (N := 7) ?hd (cs := #[.string (⟨#[]⟩ : ByteArray), .slice none 0 0, .string (⟨#[]⟩ : ByteArray)]) (t := 51) ?hr ?_; (case hd => rfl); (case hg => rfl); (case hr => first | (go_simp; done) | (go_simp; rfl)); intro gb102 hg w6 hbox hb; have n0_ := zaa.mk (zb4 (g := gb101) (o := .cells #[.string (⟨#[]⟩ : ByteArray), .slice none 0 0, .string (⟨#[]⟩ : ByteArray)] 51 (0, 0)) (by (with_reducible repeat (first | refine zaD ?_ _ | refine zaL ?_ | refine zaE ?_ _)); exact BK101.out) hb); have n1_ := zaa.mk (zaj (by repeat (first | (with_reducible first | exact HB.out | apply zad | apply zab | apply zae | refine zau ?_ GE101.out) | exact HB.out)) hb); have n2_ := zaa.mk (hbox); have n3_ := zaa.mk ((by rw [hg]; exact (zaq (by repeat (first | (with_reducible first | exact HB.out | apply zad | apply zab | apply zae | refine zau ?_ GE101.out) | exact HB.out))) : w.heap.size ≤ gb102)); have n4_ := zaa.mk ((by rw [hg]; exact (zaq (by repeat (first | (with_reducible first | exact HB.out | apply zad | apply zab | apply zae | refine zau ?_ GE101.out) | exact HB.out))) : w.heap.size ≤ gb102)); have n5_ := zaa.mk ((by rw [hg]; exact Nat.ne_of_lt (zdK (g := gb101) (o := .cells #[.string (⟨#[]⟩ : ByteArray), .slice none 0 0, .string (⟨#[]⟩ : ByteArray)] 51 (0, 0)) (by (with_reducible repeat (first | refine zaD ?_ _ | refine zaL ?_ | refine zaE ?_ _)); exact BK101.out)) : gb101 ≠ gb102)); have n6_ := zaa.mk ((by rw [hg]; exact Nat.ne_of_gt (zdK (g := gb101) (o := .cells #[.string (⟨#[]⟩ : ByteArray), .slice none 0 0, .string (⟨#[]⟩ : ByteArray)] 51 (0, 0)) (by (with_reducible repeat (first | refine zaD ?_ _ | refine zaL ?_ | refine zaE ?_ _)); exact BK101.out)) : gb102 ≠ gb101)); clear BK101; clear HB; have BK101 := n0_; have HB := n1_; have BK102 := n2_; have GW102 := n3_; have GE102 := n4_; have NB101_102 := n5_; have NB102_101 := n6_; clear n0_ n1_ n2_ n3_ n4_ n5_ n6_; clear hb hbox hg; have hnb7 := NB102_101.out; have hnc7 := NB101_102.out; have hcz8_0 : w6.cell? ⟨gb102, 0, none⟩ = some (.string (⟨#[]⟩ : ByteArray)) := (zaZ BK102.out 0).trans rfl; have hcz8_1 : w6.cell? ⟨gb102, 1, none⟩ = some (.slice none 0 0) := (zaZ BK102.out 1).trans rfl; have hcz8_2 : w6.cell? ⟨gb102, 2, none⟩ = some (.string (⟨#[]⟩ : ByteArray)) := (zaZ BK102.out 2).trans rfl; have hfz8_0 := zaJ BK102.out 0; have hfz8_1 := zaJ BK102.out 1; have hfz8_2 := zaJ BK102.out 2; have hcz9_0 : w6.cell? ⟨gb101, 0, none⟩ = some (.string (⟨#[]⟩ : ByteArray)) := (zaZ BK101.out 0).trans rfl; have hcz9_1 : w6.cell? ⟨gb101, 1, none⟩ = some (.slice none 0 0) := (zaZ BK101.out 1).trans rfl; have hcz9_2 : w6.cell? ⟨gb101, 2, none⟩ = some (.string (⟨#[]⟩ : ByteArray)) := (zaZ BK101.out 2).trans rfl; have hfz9_0 := zaJ BK101.out 0; have hfz9_1 := zaJ BK101.out 1; have hfz9_2 := zaJ BK101.out 2))
  refine bodyPost_ret (results_cell_row rfl _ _ gb101 51 #[.string a0, .slice none 0 0, .string a2] (0, 0) _ rfl (by (with_reducible repeat (first | refine zaD ?_ _ | refine zaL ?_ | refine zaE ?_ _)); refine zaK (cs := #[.string a0, .slice none 0 0, .string (⟨#[]⟩ : ByteArray)]) ?_ 2 _ rfl; (with_reducible repeat (first | refine zaD ?_ _ | refine zaL ?_ | refine zaE ?_ _)); refine zaK (cs := #[.string a0, .slice none 0 0, .string (⟨#[]⟩ : ByteArray)]) ?_ 1 _ rfl; (with_reducible repeat (first | refine zaD ?_ _ | refine zaL ?_ | refine zaE ?_ _)); refine zaK (cs := #[.string (⟨#[]⟩ : ByteArray), .slice none 0 0, .string (⟨#[]⟩ : ByteArray)]) ?_ 0 _ rfl; (with_reducible repeat (first | refine zaD ?_ _ | refine zaL ?_ | refine zaE ?_ _)); refine zcO ?_ NB101_102.out _; (with_reducible repeat (first | refine zaD ?_ _ | refine zaL ?_ | refine zaE ?_ _)); refine zcO ?_ NB101_102.out _; (with_reducible repeat (first | refine zaD ?_ _ | refine zaL ?_ | refine zaE ?_ _)); refine zcO ?_ NB101_102.out _; (with_reducible repeat (first | refine zaD ?_ _ | refine zaL ?_ | refine zaE ?_ _)); exact BK101.out) Tryd.underlying51 rfl k9) rfl ?_
  exact ⟨_, by first | rfl | (simp [zaF, zaG] <;> rfl) | (simp [*, zaF, zaG] <;> rfl), by first | exact Kd.R_nil _ _ _ _ _ | exact Kd.N_nil _ _ _ _ _ | exact Kd.V_nil _ _ _ _ _ | exact Kd.Q_nil _ _ _ _ _ | exact Kd.S_nil _ _ _ _ _, by repeat (first | (with_reducible first | exact HB.out | apply zad | apply zab | apply zae | refine zau ?_ GE101.out | refine zau ?_ GE102.out) | exact HB.out)⟩
 ·
  rw [if_neg c4] at H
  have c4b0 : (a1.toList == ([] : List UInt8)) = false := beq_eq_false_iff_ne.mpr c4
  have c4b1 : (a1.toList != ([] : List UInt8)) = true := bne_iff_ne.mpr c4
  obtain ⟨y103, hy103⟩ : ∃ y_ : List (S48), y_ = (([(⟨(⟨#[97]⟩ : ByteArray), a1⟩ : S48)] : List (S48))) := ⟨_, rfl⟩
  replace H : (some (a0, y103, a2)) = some (r1, r2, r3) := by first | (rw [hy103]; with_reducible exact H) | (have H2_ := (Option.bind_some _ _).symm.trans H; rw [hy103]; with_reducible exact H2_) | (have H2_ := (Option.bind_some _ _).symm.trans H; with_reducible exact H2_) | with_reducible exact H | (rw [hy103]; exact H) | exact H
  have Ny103 := zaa.mk hy103
  clear hy103
  simp only [Option.some.injEq, Prod.mk.injEq] at H
  obtain ⟨rfl, rfl, rfl⟩ := H
  go_enter Tryd.func22, Tryd.ntmps22
  go_wp2_with (first | ((with_reducible refine za6 (N := 6) rfl ?_); refine zbE ?hg (N := 6) ?hd (cs := #[.string (⟨#[]⟩ : ByteArray), .slice none 0 0, .string (⟨#[]⟩ : ByteArray)]) (t := 51) ?hr ?_; (case hd => rfl); (case hg => rfl); (case hr => first | (go_simp; done) | (go_simp; rfl)); intro gb101 hg w10 hbox hb; have n0_ := zaa.mk (zaj (by repeat (first | (with_reducible first | exact HB.out | apply zad | apply zab | apply zae) | exact HB.out)) hb); have n1_ := zaa.mk (hbox); have n2_ := zaa.mk ((by rw [hg]; exact (zaq (by repeat (first | (with_reducible first | exact HB.out | apply zad | apply zab | apply zae) | exact HB.out))) : w.heap.size ≤ gb101)); have n3_ := zaa.mk ((by rw [hg]; exact (zaq (by repeat (first | (with_reducible first | exact HB.out | apply zad | apply zab | apply zae) | exact HB.out))) : w.heap.size ≤ gb101)); clear HB; have HB := n0_; have BK101 := n1_; have GW101 := n2_; have GE101 := n3_; clear n0_ n1_ n2_ n3_; clear hb hbox hg) | ((with_reducible refine za6 (N := 7) rfl ?_); refine zbE ?hg (N := 7) ?hd (cs := #[.string (⟨#[]⟩ : ByteArray), .slice none 0 0, .string (⟨#[]⟩ : ByteArray)]) (t := 51) ?hr ?_; (case hd => rfl); (case hg => rfl); (case hr => first | (go_simp; done) | (go_simp; rfl)); intro gb102 hg w11 hbox hb; have n0_ := zaa.mk (zb4 (g := gb101) (o := .cells #[.string (⟨#[]⟩ : ByteArray), .slice none 0 0, .string (⟨#[]⟩ : ByteArray)] 51 (0, 0)) (by (with_reducible repeat (first | refine zaD ?_ _ | refine zaL ?_ | refine zaE ?_ _)); exact BK101.out) hb); have n1_ := zaa.mk (zaj (by repeat (first | (with_reducible first | exact HB.out | apply zad | apply zab | apply zae | refine zau ?_ GE101.out) | exact HB.out)) hb); have n2_ := zaa.mk (hbox); have n3_ := zaa.mk ((by rw [hg]; exact (zaq (by repeat (first | (with_reducible first | exact HB.out | apply zad | apply zab | apply zae | refine zau ?_ GE101.out) | exact HB.out))) : w.heap.size ≤ gb102)); have n4_ := zaa.mk ((by rw [hg]; exact (zaq (by repeat (first | (with_reducible first | exact HB.out | apply zad | apply zab | apply zae | refine zau ?_ GE101.out) | exact HB.out))) : w.heap.size ≤ gb102)); have n5_ := zaa.mk ((by rw [hg]; exact Nat.ne_of_lt (zdK (g := gb101) (o := .cells #[.string (⟨#[]⟩ : ByteArray), .slice none 0 0, .string (⟨#[]⟩ : ByteArray)] 51 (0, 0)) (by (with_reducible repeat (first | refine zaD ?_ _ | refine zaL ?_ | refine zaE ?_ _)); exact BK101.out)) : gb101 ≠ gb102)); have n6_ := zaa.mk ((by rw [hg]; exact Nat.ne_of_gt (zdK (g := gb101) (o := .cells #[.string (⟨#[]⟩ : ByteArray), .slice none 0 0, .string (⟨#[]⟩ : ByteArray)] 51 (0, 0)) (by (with_reducible repeat (first | refine zaD ?_ _ | refine zaL ?_ | refine zaE ?_ _)); exact BK101.out)) : gb102 ≠ gb101)); clear BK101; clear HB; have BK101 := n0_; have HB := n1_; have BK102 := n2_; have GW102 := n3_; have GE102 := n4_; have NB101_102 := n5_; have NB102_101 := n6_; clear n0_ n1_ n2_ n3_ n4_ n5_ n6_; clear hb hbox hg; have hnb12 := NB102_101.out; have hnc12 := NB101_102.out; have hcz13_0 : w11.cell? ⟨gb102, 0, none⟩ = some (.string (⟨#[]⟩ : ByteArray)) := (zaZ BK102.out 0).trans rfl; have hcz13_1 : w11.cell? ⟨gb102, 1, none⟩ = some (.slice none 0 0) := (zaZ BK102.out 1).trans rfl; have hcz13_2 : w11.cell? ⟨gb102, 2, none⟩ = some (.string (⟨#[]⟩ : ByteArray)) := (zaZ BK102.out 2).trans rfl; have hfz13_0 := zaJ BK102.out 0; have hfz13_1 := zaJ BK102.out 1; have hfz13_2 := zaJ BK102.out 2) | ((with_reducible refine za6 (N := 15) rfl ?_); refine Kd.R_lit k48 _ 48 ?hg (N := 15) ?hd (xs := ([(⟨(⟨#[97]⟩ : ByteArray), a1⟩ : S48)] : List (S48))) (inner := [.string (⟨#[97]⟩ : ByteArray), .string a1]) (ok := fun _ => True) (okp := fun _ => True) ?hr ?hp (fun _ hk => hk) trivial (Below.refl _ _) (Nat.le_refl _) s9 ?_; (case hd => rfl); (case hg => rfl); (case hr => first | (go_simp; done) | (go_simp; rfl)); (case hp => exact (Reps.c2 (show Kd.M k48 _ _ _ (⟨(⟨#[97]⟩ : ByteArray), a1⟩ : S48) [.string (⟨#[97]⟩ : ByteArray), .string a1] from (zdg _ _ _ (⟨(⟨#[97]⟩ : ByteArray), a1⟩ : S48) )) (Reps.none _ _))); intro v104 w14 ho15 hb hg_ hnew_; clear hg_ hnew_; (first | rw [← Ny103.out] at ho15 | (simp only [Int.reduceToNat] at ho15; rw [← Ny103.out] at ho15)); have n0_ := zaa.mk (Kd.zbm ho15 (zaq (by repeat (first | (with_reducible first | exact HB.out | apply zad | apply zab | apply zae | refine zau ?_ GE101.out | refine zau ?_ GE102.out) | exact HB.out)))); have n1_ := zaa.mk (zb4 (g := gb101) (o := .cells #[.string (⟨#[]⟩ : ByteArray), .slice none 0 0, .string (⟨#[]⟩ : ByteArray)] 51 (0, 0)) (by (with_reducible repeat (first | refine zaD ?_ _ | refine zaL ?_ | refine zaE ?_ _)); refine zcO ?_ NB101_102.out _; (with_reducible repeat (first | refine zaD ?_ _ | refine zaL ?_ | refine zaE ?_ _)); refine zcO ?_ NB101_102.out _; (with_reducible repeat (first | refine zaD ?_ _ | refine zaL ?_ | refine zaE ?_ _)); refine zcO ?_ NB101_102.out _; (with_reducible repeat (first | refine zaD ?_ _ | refine zaL ?_ | refine zaE ?_ _)); exact BK101.out) hb); have n2_ := zaa.mk (zb4 (g := gb102) (o := .cells #[.string a0, .slice none 0 0, .string a2] 51 (0, 0)) (by (with_reducible repeat (first | refine zaD ?_ _ | refine zaL ?_ | refine zaE ?_ _)); refine zaK (cs := #[.string a0, .slice none 0 0, .string (⟨#[]⟩ : ByteArray)]) ?_ 2 _ rfl; (with_reducible repeat (first | refine zaD ?_ _ | refine zaL ?_ | refine zaE ?_ _)); refine zaK (cs := #[.string a0, .slice none 0 0, .string (⟨#[]⟩ : ByteArray)]) ?_ 1 _ rfl; (with_reducible repeat (first | refine zaD ?_ _ | refine zaL ?_ | refine zaE ?_ _)); refine zaK (cs := #[.string (⟨#[]⟩ : ByteArray), .slice none 0 0, .string (⟨#[]⟩ : ByteArray)]) ?_ 0 _ rfl; (with_reducible repeat (first | refine zaD ?_ _ | refine zaL ?_ | refine zaE ?_ _)); exact BK102.out) hb); have n3_ := zaa.mk (zaj (by repeat (first | (with_reducible first | exact HB.out | apply zad | apply zab | apply zae | refine zau ?_ GE101.out | refine zau ?_ GE102.out) | exact HB.out)) hb); clear BK101; clear BK102; clear HB; have HO105 := n0_; have BK101 := n1_; have BK102 := n2_; have HB := n3_; clear n0_ n1_ n2_ n3_; clear hb ho15; obtain ⟨Ao16, co16, eo16⟩ := Kd.zaR HO105.out; subst eo16; have hcz17_0 : w14.cell? ⟨gb102, 0, none⟩ = some (.string a0) := (zaZ BK102.out 0).trans rfl; have hcz17_1 : w14.cell? ⟨gb102, 1, none⟩ = some (.slice none 0 0) := (zaZ BK102.out 1).trans rfl; have hcz17_2 : w14.cell? ⟨gb102, 2, none⟩ = some (.string a2) := (zaZ BK102.out 2).trans rfl; have hfz17_0 := zaJ BK102.out 0; have hfz17_1 := zaJ BK102.out 1; have hfz17_2 := zaJ BK102.out 2; have hcz18_0 : w14.cell? ⟨gb101, 0, none⟩ = some (.string (⟨#[]⟩ : ByteArray)) := (zaZ BK101.out 0).trans rfl; have hcz18_1 : w14.cell? ⟨gb101, 1, none⟩ = some (.slice none 0 0) := (zaZ BK101.out 1).trans rfl; have hcz18_2 : w14.cell? ⟨gb101, 2, none⟩ = some (.string (⟨#[]⟩ : ByteArray)) := (zaZ BK101.out 2).trans rfl; have hfz18_0 := zaJ BK101.out 0; have hfz18_1 := zaJ BK101.out 1; have hfz18_2 := zaJ BK101.out 2))
  refine bodyPost_ret (results_cell_row rfl _ _ gb101 51 #[.string a0, .slice Ao16 y103.length co16, .string a2] (0, 0) _ rfl (by (with_reducible repeat (first | refine zaD ?_ _ | refine zaL ?_ | refine zaE ?_ _)); refine zaK (cs := #[.string a0, .slice Ao16 y103.length co16, .string (⟨#[]⟩ : ByteArray)]) ?_ 2 _ rfl; (with_reducible repeat (first | refine zaD ?_ _ | refine zaL ?_ | refine zaE ?_ _)); refine zaK (cs := #[.string a0, .slice none 0 0, .string (⟨#[]⟩ : ByteArray)]) ?_ 1 _ rfl; (with_reducible repeat (first | refine zaD ?_ _ | refine zaL ?_ | refine zaE ?_ _)); refine zaK (cs := #[.string (⟨#[]⟩ : ByteArray), .slice none 0 0, .string (⟨#[]⟩ : ByteArray)]) ?_ 0 _ rfl; (with_reducible repeat (first | refine zaD ?_ _ | refine zaL ?_ | refine zaE ?_ _)); refine zcO ?_ NB101_102.out _; (with_reducible repeat (first | refine zaD ?_ _ | refine zaL ?_ | refine zaE ?_ _)); exact BK101.out) Tryd.underlying51 rfl k9) rfl ?_
  exact ⟨_, by first | rfl | (simp [zaF, zaG] <;> rfl) | (simp [*, zaF, zaG] <;> rfl), by (with_reducible repeat (first | apply Kd.zaH | apply Kd.zaN | apply Kd.zaX)); exact Kd.zaz (Kd.R_far (p := ⟨gb101, 2, none⟩) (Kd.R_far (p := ⟨gb101, 1, none⟩) (Kd.R_far (p := ⟨gb101, 0, none⟩) (Kd.R_far (p := ⟨gb102, 1, none⟩) (Kd.zct (Kd.zct HO105.out BK102.out d9) BK101.out d9) (fun _ hk => hk.1.2) (.slice Ao16 y103.length co16)) (fun _ hk => hk.2) (.string a0)) (fun _ hk => hk.2) (.slice Ao16 y103.length co16)) (fun _ hk => hk.2) (.string a2)) (fun _ hk => trivial), by repeat (first | (with_reducible first | exact HB.out | apply zad | apply zab | apply zae | refine zau ?_ GE101.out | refine zau ?_ GE102.out) | exact HB.out)⟩
def zak.f  : Option ((List (S43))) := (zan.f (⟨#[109]⟩ : ByteArray) (⟨#[105, 110, 116]⟩ : ByteArray) (⟨#[63]⟩ : ByteArray)).bind fun bt106 => ((zan.f (⟨#[109]⟩ : ByteArray) (⟨#[63]⟩ : ByteArray) (⟨#[105, 110, 116]⟩ : ByteArray)).bind fun bt114 => ((zan.f (⟨#[109]⟩ : ByteArray) (⟨#[115, 116, 114]⟩ : ByteArray) (⟨#[105, 110, 116]⟩ : ByteArray)).bind fun bt122 => ((zan.f (⟨#[109]⟩ : ByteArray) (⟨#[105, 110, 116]⟩ : ByteArray) (⟨#[105, 110, 116]⟩ : ByteArray)).bind fun bt133 => (some (([(⟨(⟨#[65]⟩ : ByteArray), (⟨#[]⟩ : ByteArray), ([] : List (S48)), (([(⟨bt106.1, bt106.2.1, bt106.2.2⟩ : S51)] : List (S51)))⟩ : S43), (⟨(⟨#[66]⟩ : ByteArray), (⟨#[]⟩ : ByteArray), ([] : List (S48)), (([(⟨bt114.1, bt114.2.1, bt114.2.2⟩ : S51)] : List (S51)))⟩ : S43), (⟨(⟨#[67]⟩ : ByteArray), (⟨#[]⟩ : ByteArray), ([] : List (S48)), (([(⟨bt122.1, bt122.2.1, bt122.2.2⟩ : S51)] : List (S51)))⟩ : S43), (⟨(⟨#[68]⟩ : ByteArray), (⟨#[]⟩ : ByteArray), (([(⟨(⟨#[120]⟩ : ByteArray), (⟨#[65]⟩ : ByteArray)⟩ : S48)] : List (S48))), (([(⟨bt133.1, bt133.2.1, bt133.2.2⟩ : S51)] : List (S51)))⟩ : S43), (⟨(⟨#[69]⟩ : ByteArray), (⟨#[]⟩ : ByteArray), (([(⟨(⟨#[110, 101, 120, 116]⟩ : ByteArray), (⟨#[69]⟩ : ByteArray)⟩ : S48), (⟨(⟨#[120]⟩ : ByteArray), (⟨#[63]⟩ : ByteArray)⟩ : S48)] : List (S48))), ([] : List (S51))⟩ : S43), (⟨(⟨#[70]⟩ : ByteArray), (⟨#[]⟩ : ByteArray), (([(⟨(⟨#[110, 101, 120, 116]⟩ : ByteArray), (⟨#[70]⟩ : ByteArray)⟩ : S48), (⟨(⟨#[120]⟩ : ByteArray), (⟨#[105, 110, 116]⟩ : ByteArray)⟩ : S48)] : List (S48))), ([] : List (S51))⟩ : S43)] : List (S43)))))))
theorem zak.calls  (r : List (S43)) (w : World) (h : zak.f  = some r) :
  Calls Tryd.prog 10 #[] w fun e w' => ∃ v0_ : Value, e = .returned (v0_) ∧ Kd.N k43 43 w' w.heap.size (fun k_ => (w.heap.size ≤ k_)) v0_ r ∧ Below w.heap.size w w' := by
 have hu43 := Tryd.underlying43
 have hu48 := Tryd.underlying48
 have HB := zaa.mk (Below.refl w.heap.size w)
 have H : ((zan.f (⟨#[109]⟩ : ByteArray) (⟨#[105, 110, 116]⟩ : ByteArray) (⟨#[63]⟩ : ByteArray)).bind fun bt106 => ((zan.f (⟨#[109]⟩ : ByteArray) (⟨#[63]⟩ : ByteArray) (⟨#[105, 110, 116]⟩ : ByteArray)).bind fun bt114 => ((zan.f (⟨#[109]⟩ : ByteArray) (⟨#[115, 116, 114]⟩ : ByteArray) (⟨#[105, 110, 116]⟩ : ByteArray)).bind fun bt122 => ((zan.f (⟨#[109]⟩ : ByteArray) (⟨#[105, 110, 116]⟩ : ByteArray) (⟨#[105, 110, 116]⟩ : ByteArray)).bind fun bt133 => (some (([(⟨(⟨#[65]⟩ : ByteArray), (⟨#[]⟩ : ByteArray), ([] : List (S48)), (([(⟨bt106.1, bt106.2.1, bt106.2.2⟩ : S51)] : List (S51)))⟩ : S43), (⟨(⟨#[66]⟩ : ByteArray), (⟨#[]⟩ : ByteArray), ([] : List (S48)), (([(⟨bt114.1, bt114.2.1, bt114.2.2⟩ : S51)] : List (S51)))⟩ : S43), (⟨(⟨#[67]⟩ : ByteArray), (⟨#[]⟩ : ByteArray), ([] : List (S48)), (([(⟨bt122.1, bt122.2.1, bt122.2.2⟩ : S51)] : List (S51)))⟩ : S43), (⟨(⟨#[68]⟩ : ByteArray), (⟨#[]⟩ : ByteArray), (([(⟨(⟨#[120]⟩ : ByteArray), (⟨#[65]⟩ : ByteArray)⟩ : S48)] : List (S48))), (([(⟨bt133.1, bt133.2.1, bt133.2.2⟩ : S51)] : List (S51)))⟩ : S43), (⟨(⟨#[69]⟩ : ByteArray), (⟨#[]⟩ : ByteArray), (([(⟨(⟨#[110, 101, 120, 116]⟩ : ByteArray), (⟨#[69]⟩ : ByteArray)⟩ : S48), (⟨(⟨#[120]⟩ : ByteArray), (⟨#[63]⟩ : ByteArray)⟩ : S48)] : List (S48))), ([] : List (S51))⟩ : S43), (⟨(⟨#[70]⟩ : ByteArray), (⟨#[]⟩ : ByteArray), (([(⟨(⟨#[110, 101, 120, 116]⟩ : ByteArray), (⟨#[70]⟩ : ByteArray)⟩ : S48), (⟨(⟨#[120]⟩ : ByteArray), (⟨#[105, 110, 116]⟩ : ByteArray)⟩ : S48)] : List (S48))), ([] : List (S51))⟩ : S43)] : List (S43)))))))) = some r := h
 clear h
 replace H := Option.bind_eq_some_iff.mp H
 obtain ⟨⟨t106, t107, t110⟩, A10, H⟩ := H
 replace H : ((zan.f (⟨#[109]⟩ : ByteArray) (⟨#[63]⟩ : ByteArray) (⟨#[105, 110, 116]⟩ : ByteArray)).bind fun bt114 => ((zan.f (⟨#[109]⟩ : ByteArray) (⟨#[115, 116, 114]⟩ : ByteArray) (⟨#[105, 110, 116]⟩ : ByteArray)).bind fun bt122 => ((zan.f (⟨#[109]⟩ : ByteArray) (⟨#[105, 110, 116]⟩ : ByteArray) (⟨#[105, 110, 116]⟩ : ByteArray)).bind fun bt133 => (some (([(⟨(⟨#[65]⟩ : ByteArray), (⟨#[]⟩ : ByteArray), ([] : List (S48)), (([(⟨t106, t107, t110⟩ : S51)] : List (S51)))⟩ : S43), (⟨(⟨#[66]⟩ : ByteArray), (⟨#[]⟩ : ByteArray), ([] : List (S48)), (([(⟨bt114.1, bt114.2.1, bt114.2.2⟩ : S51)] : List (S51)))⟩ : S43), (⟨(⟨#[67]⟩ : ByteArray), (⟨#[]⟩ : ByteArray), ([] : List (S48)), (([(⟨bt122.1, bt122.2.1, bt122.2.2⟩ : S51)] : List (S51)))⟩ : S43), (⟨(⟨#[68]⟩ : ByteArray), (⟨#[]⟩ : ByteArray), (([(⟨(⟨#[120]⟩ : ByteArray), (⟨#[65]⟩ : ByteArray)⟩ : S48)] : List (S48))), (([(⟨bt133.1, bt133.2.1, bt133.2.2⟩ : S51)] : List (S51)))⟩ : S43), (⟨(⟨#[69]⟩ : ByteArray), (⟨#[]⟩ : ByteArray), (([(⟨(⟨#[110, 101, 120, 116]⟩ : ByteArray), (⟨#[69]⟩ : ByteArray)⟩ : S48), (⟨(⟨#[120]⟩ : ByteArray), (⟨#[63]⟩ : ByteArray)⟩ : S48)] : List (S48))), ([] : List (S51))⟩ : S43), (⟨(⟨#[70]⟩ : ByteArray), (⟨#[]⟩ : ByteArray), (([(⟨(⟨#[110, 101, 120, 116]⟩ : ByteArray), (⟨#[70]⟩ : ByteArray)⟩ : S48), (⟨(⟨#[120]⟩ : ByteArray), (⟨#[105, 110, 116]⟩ : ByteArray)⟩ : S48)] : List (S48))), ([] : List (S51))⟩ : S43)] : List (S43))))))) = some r := H
 have A1 := zaa.mk A10
 clear A10
 obtain ⟨y111, hy111⟩ : ∃ y_ : List (S51), y_ = (([(⟨t106, t107, t110⟩ : S51)] : List (S51))) := ⟨_, rfl⟩
 replace H : ((zan.f (⟨#[109]⟩ : ByteArray) (⟨#[63]⟩ : ByteArray) (⟨#[105, 110, 116]⟩ : ByteArray)).bind fun bt114 => ((zan.f (⟨#[109]⟩ : ByteArray) (⟨#[115, 116, 114]⟩ : ByteArray) (⟨#[105, 110, 116]⟩ : ByteArray)).bind fun bt122 => ((zan.f (⟨#[109]⟩ : ByteArray) (⟨#[105, 110, 116]⟩ : ByteArray) (⟨#[105, 110, 116]⟩ : ByteArray)).bind fun bt133 => (some (([(⟨(⟨#[65]⟩ : ByteArray), (⟨#[]⟩ : ByteArray), ([] : List (S48)), y111⟩ : S43), (⟨(⟨#[66]⟩ : ByteArray), (⟨#[]⟩ : ByteArray), ([] : List (S48)), (([(⟨bt114.1, bt114.2.1, bt114.2.2⟩ : S51)] : List (S51)))⟩ : S43), (⟨(⟨#[67]⟩ : ByteArray), (⟨#[]⟩ : ByteArray), ([] : List (S48)), (([(⟨bt122.1, bt122.2.1, bt122.2.2⟩ : S51)] : List (S51)))⟩ : S43), (⟨(⟨#[68]⟩ : ByteArray), (⟨#[]⟩ : ByteArray), (([(⟨(⟨#[120]⟩ : ByteArray), (⟨#[65]⟩ : ByteArray)⟩ : S48)] : List (S48))), (([(⟨bt133.1, bt133.2.1, bt133.2.2⟩ : S51)] : List (S51)))⟩ : S43), (⟨(⟨#[69]⟩ : ByteArray), (⟨#[]⟩ : ByteArray), (([(⟨(⟨#[110, 101, 120, 116]⟩ : ByteArray), (⟨#[69]⟩ : ByteArray)⟩ : S48), (⟨(⟨#[120]⟩ : ByteArray), (⟨#[63]⟩ : ByteArray)⟩ : S48)] : List (S48))), ([] : List (S51))⟩ : S43), (⟨(⟨#[70]⟩ : ByteArray), (⟨#[]⟩ : ByteArray), (([(⟨(⟨#[110, 101, 120, 116]⟩ : ByteArray), (⟨#[70]⟩ : ByteArray)⟩ : S48), (⟨(⟨#[120]⟩ : ByteArray), (⟨#[105, 110, 116]⟩ : ByteArray)⟩ : S48)] : List (S48))), ([] : List (S51))⟩ : S43)] : List (S43))))))) = some r := by first | (rw [hy111]; with_reducible exact H) | (have H2_ := (Option.bind_some _ _).symm.trans H; rw [hy111]; with_reducible exact H2_) | (have H2_ := (Option.bind_some _ _).symm.trans H; with_reducible exact H2_) | with_reducible exact H | (rw [hy111]; exact H) | exact H
 have Ny111 := zaa.mk hy111
 clear hy111
 replace H := Option.bind_eq_some_iff.mp H
 obtain ⟨⟨t114, t115, t118⟩, A20, H⟩ := H
 replace H : ((zan.f (⟨#[109]⟩ : ByteArray) (⟨#[115, 116, 114]⟩ : ByteArray) (⟨#[105, 110, 116]⟩ : ByteArray)).bind fun bt122 => ((zan.f (⟨#[109]⟩ : ByteArray) (⟨#[105, 110, 116]⟩ : ByteArray) (⟨#[105, 110, 116]⟩ : ByteArray)).bind fun bt133 => (some (([(⟨(⟨#[65]⟩ : ByteArray), (⟨#[]⟩ : ByteArray), ([] : List (S48)), y111⟩ : S43), (⟨(⟨#[66]⟩ : ByteArray), (⟨#[]⟩ : ByteArray), ([] : List (S48)), (([(⟨t114, t115, t118⟩ : S51)] : List (S51)))⟩ : S43), (⟨(⟨#[67]⟩ : ByteArray), (⟨#[]⟩ : ByteArray), ([] : List (S48)), (([(⟨bt122.1, bt122.2.1, bt122.2.2⟩ : S51)] : List (S51)))⟩ : S43), (⟨(⟨#[68]⟩ : ByteArray), (⟨#[]⟩ : ByteArray), (([(⟨(⟨#[120]⟩ : ByteArray), (⟨#[65]⟩ : ByteArray)⟩ : S48)] : List (S48))), (([(⟨bt133.1, bt133.2.1, bt133.2.2⟩ : S51)] : List (S51)))⟩ : S43), (⟨(⟨#[69]⟩ : ByteArray), (⟨#[]⟩ : ByteArray), (([(⟨(⟨#[110, 101, 120, 116]⟩ : ByteArray), (⟨#[69]⟩ : ByteArray)⟩ : S48), (⟨(⟨#[120]⟩ : ByteArray), (⟨#[63]⟩ : ByteArray)⟩ : S48)] : List (S48))), ([] : List (S51))⟩ : S43), (⟨(⟨#[70]⟩ : ByteArray), (⟨#[]⟩ : ByteArray), (([(⟨(⟨#[110, 101, 120, 116]⟩ : ByteArray), (⟨#[70]⟩ : ByteArray)⟩ : S48), (⟨(⟨#[120]⟩ : ByteArray), (⟨#[105, 110, 116]⟩ : ByteArray)⟩ : S48)] : List (S48))), ([] : List (S51))⟩ : S43)] : List (S43)))))) = some r := H
 have A2 := zaa.mk A20
 clear A20
 obtain ⟨y119, hy119⟩ : ∃ y_ : List (S51), y_ = (([(⟨t114, t115, t118⟩ : S51)] : List (S51))) := ⟨_, rfl⟩
 replace H : ((zan.f (⟨#[109]⟩ : ByteArray) (⟨#[115, 116, 114]⟩ : ByteArray) (⟨#[105, 110, 116]⟩ : ByteArray)).bind fun bt122 => ((zan.f (⟨#[109]⟩ : ByteArray) (⟨#[105, 110, 116]⟩ : ByteArray) (⟨#[105, 110, 116]⟩ : ByteArray)).bind fun bt133 => (some (([(⟨(⟨#[65]⟩ : ByteArray), (⟨#[]⟩ : ByteArray), ([] : List (S48)), y111⟩ : S43), (⟨(⟨#[66]⟩ : ByteArray), (⟨#[]⟩ : ByteArray), ([] : List (S48)), y119⟩ : S43), (⟨(⟨#[67]⟩ : ByteArray), (⟨#[]⟩ : ByteArray), ([] : List (S48)), (([(⟨bt122.1, bt122.2.1, bt122.2.2⟩ : S51)] : List (S51)))⟩ : S43), (⟨(⟨#[68]⟩ : ByteArray), (⟨#[]⟩ : ByteArray), (([(⟨(⟨#[120]⟩ : ByteArray), (⟨#[65]⟩ : ByteArray)⟩ : S48)] : List (S48))), (([(⟨bt133.1, bt133.2.1, bt133.2.2⟩ : S51)] : List (S51)))⟩ : S43), (⟨(⟨#[69]⟩ : ByteArray), (⟨#[]⟩ : ByteArray), (([(⟨(⟨#[110, 101, 120, 116]⟩ : ByteArray), (⟨#[69]⟩ : ByteArray)⟩ : S48), (⟨(⟨#[120]⟩ : ByteArray), (⟨#[63]⟩ : ByteArray)⟩ : S48)] : List (S48))), ([] : List (S51))⟩ : S43), (⟨(⟨#[70]⟩ : ByteArray), (⟨#[]⟩ : ByteArray), (([(⟨(⟨#[110, 101, 120, 116]⟩ : ByteArray), (⟨#[70]⟩ : ByteArray)⟩ : S48), (⟨(⟨#[120]⟩ : ByteArray), (⟨#[105, 110, 116]⟩ : ByteArray)⟩ : S48)] : List (S48))), ([] : List (S51))⟩ : S43)] : List (S43)))))) = some r := by first | (rw [hy119]; with_reducible exact H) | (have H2_ := (Option.bind_some _ _).symm.trans H; rw [hy119]; with_reducible exact H2_) | (have H2_ := (Option.bind_some _ _).symm.trans H; with_reducible exact H2_) | with_reducible exact H | (rw [hy119]; exact H) | exact H
 have Ny119 := zaa.mk hy119
 clear hy119
 replace H := Option.bind_eq_some_iff.mp H
 obtain ⟨⟨t122, t123, t126⟩, A30, H⟩ := H
 replace H : ((zan.f (⟨#[109]⟩ : ByteArray) (⟨#[105, 110, 116]⟩ : ByteArray) (⟨#[105, 110, 116]⟩ : ByteArray)).bind fun bt133 => (some (([(⟨(⟨#[65]⟩ : ByteArray), (⟨#[]⟩ : ByteArray), ([] : List (S48)), y111⟩ : S43), (⟨(⟨#[66]⟩ : ByteArray), (⟨#[]⟩ : ByteArray), ([] : List (S48)), y119⟩ : S43), (⟨(⟨#[67]⟩ : ByteArray), (⟨#[]⟩ : ByteArray), ([] : List (S48)), (([(⟨t122, t123, t126⟩ : S51)] : List (S51)))⟩ : S43), (⟨(⟨#[68]⟩ : ByteArray), (⟨#[]⟩ : ByteArray), (([(⟨(⟨#[120]⟩ : ByteArray), (⟨#[65]⟩ : ByteArray)⟩ : S48)] : List (S48))), (([(⟨bt133.1, bt133.2.1, bt133.2.2⟩ : S51)] : List (S51)))⟩ : S43), (⟨(⟨#[69]⟩ : ByteArray), (⟨#[]⟩ : ByteArray), (([(⟨(⟨#[110, 101, 120, 116]⟩ : ByteArray), (⟨#[69]⟩ : ByteArray)⟩ : S48), (⟨(⟨#[120]⟩ : ByteArray), (⟨#[63]⟩ : ByteArray)⟩ : S48)] : List (S48))), ([] : List (S51))⟩ : S43), (⟨(⟨#[70]⟩ : ByteArray), (⟨#[]⟩ : ByteArray), (([(⟨(⟨#[110, 101, 120, 116]⟩ : ByteArray), (⟨#[70]⟩ : ByteArray)⟩ : S48), (⟨(⟨#[120]⟩ : ByteArray), (⟨#[105, 110, 116]⟩ : ByteArray)⟩ : S48)] : List (S48))), ([] : List (S51))⟩ : S43)] : List (S43))))) = some r := H
 have A3 := zaa.mk A30
 clear A30
 obtain ⟨y127, hy127⟩ : ∃ y_ : List (S51), y_ = (([(⟨t122, t123, t126⟩ : S51)] : List (S51))) := ⟨_, rfl⟩
 replace H : ((zan.f (⟨#[109]⟩ : ByteArray) (⟨#[105, 110, 116]⟩ : ByteArray) (⟨#[105, 110, 116]⟩ : ByteArray)).bind fun bt133 => (some (([(⟨(⟨#[65]⟩ : ByteArray), (⟨#[]⟩ : ByteArray), ([] : List (S48)), y111⟩ : S43), (⟨(⟨#[66]⟩ : ByteArray), (⟨#[]⟩ : ByteArray), ([] : List (S48)), y119⟩ : S43), (⟨(⟨#[67]⟩ : ByteArray), (⟨#[]⟩ : ByteArray), ([] : List (S48)), y127⟩ : S43), (⟨(⟨#[68]⟩ : ByteArray), (⟨#[]⟩ : ByteArray), (([(⟨(⟨#[120]⟩ : ByteArray), (⟨#[65]⟩ : ByteArray)⟩ : S48)] : List (S48))), (([(⟨bt133.1, bt133.2.1, bt133.2.2⟩ : S51)] : List (S51)))⟩ : S43), (⟨(⟨#[69]⟩ : ByteArray), (⟨#[]⟩ : ByteArray), (([(⟨(⟨#[110, 101, 120, 116]⟩ : ByteArray), (⟨#[69]⟩ : ByteArray)⟩ : S48), (⟨(⟨#[120]⟩ : ByteArray), (⟨#[63]⟩ : ByteArray)⟩ : S48)] : List (S48))), ([] : List (S51))⟩ : S43), (⟨(⟨#[70]⟩ : ByteArray), (⟨#[]⟩ : ByteArray), (([(⟨(⟨#[110, 101, 120, 116]⟩ : ByteArray), (⟨#[70]⟩ : ByteArray)⟩ : S48), (⟨(⟨#[120]⟩ : ByteArray), (⟨#[105, 110, 116]⟩ : ByteArray)⟩ : S48)] : List (S48))), ([] : List (S51))⟩ : S43)] : List (S43))))) = some r := by first | (rw [hy127]; with_reducible exact H) | (have H2_ := (Option.bind_some _ _).symm.trans H; rw [hy127]; with_reducible exact H2_) | (have H2_ := (Option.bind_some _ _).symm.trans H; with_reducible exact H2_) | with_reducible exact H | (rw [hy127]; exact H) | exact H
 have Ny127 := zaa.mk hy127
 clear hy127
 obtain ⟨y130, hy130⟩ : ∃ y_ : List (S48), y_ = (([(⟨(⟨#[120]⟩ : ByteArray), (⟨#[65]⟩ : ByteArray)⟩ : S48)] : List (S48))) := ⟨_, rfl⟩
 replace H : ((zan.f (⟨#[109]⟩ : ByteArray) (⟨#[105, 110, 116]⟩ : ByteArray) (⟨#[105, 110, 116]⟩ : ByteArray)).bind fun bt133 => (some (([(⟨(⟨#[65]⟩ : ByteArray), (⟨#[]⟩ : ByteArray), ([] : List (S48)), y111⟩ : S43), (⟨(⟨#[66]⟩ : ByteArray), (⟨#[]⟩ : ByteArray), ([] : List (S48)), y119⟩ : S43), (⟨(⟨#[67]⟩ : ByteArray), (⟨#[]⟩ : ByteArray), ([] : List (S48)), y127⟩ : S43), (⟨(⟨#[68]⟩ : ByteArray), (⟨#[]⟩ : ByteArray), y130, (([(⟨bt133.1, bt133.2.1, bt133.2.2⟩ : S51)] : List (S51)))⟩ : S43), (⟨(⟨#[69]⟩ : ByteArray), (⟨#[]⟩ : ByteArray), (([(⟨(⟨#[110, 101, 120, 116]⟩ : ByteArray), (⟨#[69]⟩ : ByteArray)⟩ : S48), (⟨(⟨#[120]⟩ : ByteArray), (⟨#[63]⟩ : ByteArray)⟩ : S48)] : List (S48))), ([] : List (S51))⟩ : S43), (⟨(⟨#[70]⟩ : ByteArray), (⟨#[]⟩ : ByteArray), (([(⟨(⟨#[110, 101, 120, 116]⟩ : ByteArray), (⟨#[70]⟩ : ByteArray)⟩ : S48), (⟨(⟨#[120]⟩ : ByteArray), (⟨#[105, 110, 116]⟩ : ByteArray)⟩ : S48)] : List (S48))), ([] : List (S51))⟩ : S43)] : List (S43))))) = some r := by first | (rw [hy130]; with_reducible exact H) | (have H2_ := (Option.bind_some _ _).symm.trans H; rw [hy130]; with_reducible exact H2_) | (have H2_ := (Option.bind_some _ _).symm.trans H; with_reducible exact H2_) | with_reducible exact H | (rw [hy130]; exact H) | exact H
 have Ny130 := zaa.mk hy130
 clear hy130
 replace H := Option.bind_eq_some_iff.mp H
 obtain ⟨⟨t133, t134, t137⟩, A40, H⟩ := H
 replace H : (some (([(⟨(⟨#[65]⟩ : ByteArray), (⟨#[]⟩ : ByteArray), ([] : List (S48)), y111⟩ : S43), (⟨(⟨#[66]⟩ : ByteArray), (⟨#[]⟩ : ByteArray), ([] : List (S48)), y119⟩ : S43), (⟨(⟨#[67]⟩ : ByteArray), (⟨#[]⟩ : ByteArray), ([] : List (S48)), y127⟩ : S43), (⟨(⟨#[68]⟩ : ByteArray), (⟨#[]⟩ : ByteArray), y130, (([(⟨t133, t134, t137⟩ : S51)] : List (S51)))⟩ : S43), (⟨(⟨#[69]⟩ : ByteArray), (⟨#[]⟩ : ByteArray), (([(⟨(⟨#[110, 101, 120, 116]⟩ : ByteArray), (⟨#[69]⟩ : ByteArray)⟩ : S48), (⟨(⟨#[120]⟩ : ByteArray), (⟨#[63]⟩ : ByteArray)⟩ : S48)] : List (S48))), ([] : List (S51))⟩ : S43), (⟨(⟨#[70]⟩ : ByteArray), (⟨#[]⟩ : ByteArray), (([(⟨(⟨#[110, 101, 120, 116]⟩ : ByteArray), (⟨#[70]⟩ : ByteArray)⟩ : S48), (⟨(⟨#[120]⟩ : ByteArray), (⟨#[105, 110, 116]⟩ : ByteArray)⟩ : S48)] : List (S48))), ([] : List (S51))⟩ : S43)] : List (S43)))) = some r := H
 have A4 := zaa.mk A40
 clear A40
 obtain ⟨y138, hy138⟩ : ∃ y_ : List (S51), y_ = (([(⟨t133, t134, t137⟩ : S51)] : List (S51))) := ⟨_, rfl⟩
 replace H : (some (([(⟨(⟨#[65]⟩ : ByteArray), (⟨#[]⟩ : ByteArray), ([] : List (S48)), y111⟩ : S43), (⟨(⟨#[66]⟩ : ByteArray), (⟨#[]⟩ : ByteArray), ([] : List (S48)), y119⟩ : S43), (⟨(⟨#[67]⟩ : ByteArray), (⟨#[]⟩ : ByteArray), ([] : List (S48)), y127⟩ : S43), (⟨(⟨#[68]⟩ : ByteArray), (⟨#[]⟩ : ByteArray), y130, y138⟩ : S43), (⟨(⟨#[69]⟩ : ByteArray), (⟨#[]⟩ : ByteArray), (([(⟨(⟨#[110, 101, 120, 116]⟩ : ByteArray), (⟨#[69]⟩ : ByteArray)⟩ : S48), (⟨(⟨#[120]⟩ : ByteArray), (⟨#[63]⟩ : ByteArray)⟩ : S48)] : List (S48))), ([] : List (S51))⟩ : S43), (⟨(⟨#[70]⟩ : ByteArray), (⟨#[]⟩ : ByteArray), (([(⟨(⟨#[110, 101, 120, 116]⟩ : ByteArray), (⟨#[70]⟩ : ByteArray)⟩ : S48), (⟨(⟨#[120]⟩ : ByteArray), (⟨#[105, 110, 116]⟩ : ByteArray)⟩ : S48)] : List (S48))), ([] : List (S51))⟩ : S43)] : List (S43)))) = some r := by first | (rw [hy138]; with_reducible exact H) | (have H2_ := (Option.bind_some _ _).symm.trans H; rw [hy138]; with_reducible exact H2_) | (have H2_ := (Option.bind_some _ _).symm.trans H; with_reducible exact H2_) | with_reducible exact H | (rw [hy138]; exact H) | exact H
 have Ny138 := zaa.mk hy138
 clear hy138
 obtain ⟨y141, hy141⟩ : ∃ y_ : List (S48), y_ = (([(⟨(⟨#[110, 101, 120, 116]⟩ : ByteArray), (⟨#[69]⟩ : ByteArray)⟩ : S48), (⟨(⟨#[120]⟩ : ByteArray), (⟨#[63]⟩ : ByteArray)⟩ : S48)] : List (S48))) := ⟨_, rfl⟩
 replace H : (some (([(⟨(⟨#[65]⟩ : ByteArray), (⟨#[]⟩ : ByteArray), ([] : List (S48)), y111⟩ : S43), (⟨(⟨#[66]⟩ : ByteArray), (⟨#[]⟩ : ByteArray), ([] : List (S48)), y119⟩ : S43), (⟨(⟨#[67]⟩ : ByteArray), (⟨#[]⟩ : ByteArray), ([] : List (S48)), y127⟩ : S43), (⟨(⟨#[68]⟩ : ByteArray), (⟨#[]⟩ : ByteArray), y130, y138⟩ : S43), (⟨(⟨#[69]⟩ : ByteArray), (⟨#[]⟩ : ByteArray), y141, ([] : List (S51))⟩ : S43), (⟨(⟨#[70]⟩ : ByteArray), (⟨#[]⟩ : ByteArray), (([(⟨(⟨#[110, 101, 120, 116]⟩ : ByteArray), (⟨#[70]⟩ : ByteArray)⟩ : S48), (⟨(⟨#[120]⟩ : ByteArray), (⟨#[105, 110, 116]⟩ : ByteArray)⟩ : S48)] : List (S48))), ([] : List (S51))⟩ : S43)] : List (S43)))) = some r := by first | (rw [hy141]; with_reducible exact H) | (have H2_ := (Option.bind_some _ _).symm.trans H; rw [hy141]; with_reducible exact H2_) | (have H2_ := (Option.bind_some _ _).symm.trans H; with_reducible exact H2_) | with_reducible exact H | (rw [hy141]; exact H) | exact H
 have Ny141 := zaa.mk hy141
 clear hy141
 obtain ⟨y144, hy144⟩ : ∃ y_ : List (S48), y_ = (([(⟨(⟨#[110, 101, 120, 116]⟩ : ByteArray), (⟨#[70]⟩ : ByteArray)⟩ : S48), (⟨(⟨#[120]⟩ : ByteArray), (⟨#[105, 110, 116]⟩ : ByteArray)⟩ : S48)] : List (S48))) := ⟨_, rfl⟩
 replace H : (some (([(⟨(⟨#[65]⟩ : ByteArray), (⟨#[]⟩ : ByteArray), ([] : List (S48)), y111⟩ : S43), (⟨(⟨#[66]⟩ : ByteArray), (⟨#[]⟩ : ByteArray), ([] : List (S48)), y119⟩ : S43), (⟨(⟨#[67]⟩ : ByteArray), (⟨#[]⟩ : ByteArray), ([] : List (S48)), y127⟩ : S43), (⟨(⟨#[68]⟩ : ByteArray), (⟨#[]⟩ : ByteArray), y130, y138⟩ : S43), (⟨(⟨#[69]⟩ : ByteArray), (⟨#[]⟩ : ByteArray), y141, ([] : List (S51))⟩ : S43), (⟨(⟨#[70]⟩ : ByteArray), (⟨#[]⟩ : ByteArray), y144, ([] : List (S51))⟩ : S43)] : List (S43)))) = some r := by first | (rw [hy144]; with_reducible exact H) | (have H2_ := (Option.bind_some _ _).symm.trans H; rw [hy144]; with_reducible exact H2_) | (have H2_ := (Option.bind_some _ _).symm.trans H; with_reducible exact H2_) | with_reducible exact H | (rw [hy144]; exact H) | exact H
 have Ny144 := zaa.mk hy144
 clear hy144
 obtain ⟨y147, hy147⟩ : ∃ y_ : List (S43), y_ = (([(⟨(⟨#[65]⟩ : ByteArray), (⟨#[]⟩ : ByteArray), ([] : List (S48)), y111⟩ : S43), (⟨(⟨#[66]⟩ : ByteArray), (⟨#[]⟩ : ByteArray), ([] : List (S48)), y119⟩ : S43), (⟨(⟨#[67]⟩ : ByteArray), (⟨#[]⟩ : ByteArray), ([] : List (S48)), y127⟩ : S43), (⟨(⟨#[68]⟩ : ByteArray), (⟨#[]⟩ : ByteArray), y130, y138⟩ : S43), (⟨(⟨#[69]⟩ : ByteArray), (⟨#[]⟩ : ByteArray), y141, ([] : List (S51))⟩ : S43), (⟨(⟨#[70]⟩ : ByteArray), (⟨#[]⟩ : ByteArray), y144, ([] : List (S51))⟩ : S43)] : List (S43))) := ⟨_, rfl⟩
 replace H : (some y147) = some r := by first | (rw [hy147]; with_reducible exact H) | (have H2_ := (Option.bind_some _ _).symm.trans H; rw [hy147]; with_reducible exact H2_) | (have H2_ := (Option.bind_some _ _).symm.trans H; with_reducible exact H2_) | with_reducible exact H | (rw [hy147]; exact H) | exact H
 have Ny147 := zaa.mk hy147
 clear hy147
 obtain rfl := Option.some.inj H
 go_enter Tryd.func10, Tryd.ntmps10
 go_wp2_with (first | ((with_reducible refine zaA (f := 22) rfl ?_); refine zbn (some 1) rfl rfl Tryd.func22 k9 rfl #[.string (⟨#[109]⟩ : ByteArray), .string (⟨#[105, 110, 116]⟩ : ByteArray), .string (⟨#[63]⟩ : ByteArray)] rfl m9 ?_; (with_reducible refine (zan.calls (⟨#[109]⟩ : ByteArray) (⟨#[105, 110, 116]⟩ : ByteArray) (⟨#[63]⟩ : ByteArray) t106 t107 t110 _ A1.out).mono ?_); rintro e w5 ⟨v108, rfl, ho0, hb⟩; refine ⟨_, rfl, ?_⟩; have n0_ := zaa.mk (Kd.zbm (Kd.zdD (M := fun k_ => (w.heap.size ≤ k_)) ho0 (zaq (by repeat (first | (with_reducible first | exact HB.out | apply zad | apply zab | apply zae) | exact HB.out))) (fun k_ h_ => h_)) (zaq (by repeat (first | (with_reducible first | exact HB.out | apply zad | apply zab | apply zae) | exact HB.out)))); have n1_ := zaa.mk (zaj (by repeat (first | (with_reducible first | exact HB.out | apply zad | apply zab | apply zae) | exact HB.out)) hb); clear HB; have HO109 := n0_; have HB := n1_; clear n0_ n1_; (try clear hb); (try clear hb2); (try clear hk); (try clear hi); (try clear ho0); obtain ⟨Ao6, co6, eo6⟩ := Kd.zaR HO109.out; subst eo6) | ((with_reducible refine za6 (N := 2) rfl ?_); refine Kd.N_lit k51 _ 51 ?hg (N' := 2) ?hd (xs := ([(⟨t106, t107, t110⟩ : S51)] : List (S51))) (inner := [.string t106, .slice Ao6 t107.length co6, .string t110]) (ok := (fun k_ => (w.heap.size ≤ k_))) (okp := (fun k_ => (w.heap.size ≤ k_))) ?hr ?hp (fun _ hk => hk) ((show ∀ k_, w5.heap.size ≤ k_ → (fun k_ => (w.heap.size ≤ k_)) k_ from fun k_ hk => (Nat.le_trans (zaq (by repeat (first | (with_reducible first | exact HB.out | apply zad | apply zab | apply zae) | exact HB.out))) hk)) _ (Nat.le_refl _)) (Below.refl _ _) (Nat.le_refl _) s9 ?_; (case hd => rfl); (case hg => rfl); (case hr => first | (go_simp; done) | (go_simp; rfl)); (case hp => exact (Reps.c3 (show Kd.FK k51 _ _ (⟨t106, t107, t110⟩ : S51) [.string t106, .slice Ao6 t107.length co6, .string t110] from (zem _ _ (⟨t106, t107, t110⟩ : S51) (Kd.zaU (Kd.zaz (ok' := (fun k_ => (w.heap.size ≤ k_))) (HO109.out) (fun k_ hk => hk.1))).2.1 (Kd.R_F (Kd.zaz (ok' := (fun k_ => (w.heap.size ≤ k_))) (HO109.out) (fun k_ hk => hk.1))))) (Reps.none _ _))); intro v112 w7 ho8 hb hg_ hnew_; clear hg_ hnew_; (first | rw [← Ny111.out] at ho8 | (simp only [Int.reduceToNat] at ho8; rw [← Ny111.out] at ho8)); have n0_ := zaa.mk (Kd.zch ho8 (zaq (by repeat (first | (with_reducible first | exact HB.out | apply zad | apply zab | apply zae) | exact HB.out)))); have n1_ := zaa.mk (zaj (by repeat (first | (with_reducible first | exact HB.out | apply zad | apply zab | apply zae) | exact HB.out)) hb); clear HB; clear HO109; have HO113 := n0_; have HB := n1_; clear n0_ n1_; clear hb ho8; obtain ⟨Ao9, co9, eo9⟩ := Kd.zcs HO113.out; subst eo9) | ((with_reducible refine zaA (f := 22) rfl ?_); refine zbn (some 4) rfl rfl Tryd.func22 k9 rfl #[.string (⟨#[109]⟩ : ByteArray), .string (⟨#[63]⟩ : ByteArray), .string (⟨#[105, 110, 116]⟩ : ByteArray)] rfl m9 ?_; (with_reducible refine (zan.calls (⟨#[109]⟩ : ByteArray) (⟨#[63]⟩ : ByteArray) (⟨#[105, 110, 116]⟩ : ByteArray) t114 t115 t118 _ A2.out).mono ?_); rintro e w10 ⟨v116, rfl, ho0, hb⟩; refine ⟨_, rfl, ?_⟩; have n0_ := zaa.mk (Kd.zba (by (with_reducible repeat (first | apply Kd.zaS | apply Kd.zaT | apply Kd.zbc)); exact HO113.out) (Kd.zbA ho0) hb); have n1_ := zaa.mk (Kd.zbm (Kd.zdD (M := fun k_ => (w.heap.size ≤ k_)) ho0 (zaq (by repeat (first | (with_reducible first | exact HB.out | apply zad | apply zab | apply zae) | exact HB.out))) (fun k_ h_ => h_)) (zaq (by repeat (first | (with_reducible first | exact HB.out | apply zad | apply zab | apply zae) | exact HB.out)))); have n2_ := zaa.mk (zaj (by repeat (first | (with_reducible first | exact HB.out | apply zad | apply zab | apply zae) | exact HB.out)) hb); clear HO113; clear HB; have HO113 := n0_; have HO117 := n1_; have HB := n2_; clear n0_ n1_ n2_; (try clear hb); (try clear hb2); (try clear hk); (try clear hi); (try clear ho0); obtain ⟨Ao11, co11, eo11⟩ := Kd.zaR HO117.out; subst eo11) | ((with_reducible refine za6 (N := 5) rfl ?_); refine Kd.N_lit k51 _ 51 ?hg (N' := 5) ?hd (xs := ([(⟨t114, t115, t118⟩ : S51)] : List (S51))) (inner := [.string t114, .slice Ao11 t115.length co11, .string t118]) (ok := (fun k_ => (w.heap.size ≤ k_) ∧ some k_ ≠ (.slice Ao9 y111.length co9 : Value).ownBlock)) (okp := (fun k_ => (w.heap.size ≤ k_) ∧ some k_ ≠ (.slice Ao9 y111.length co9 : Value).ownBlock)) ?hr ?hp (fun _ hk => hk) ((show ∀ k_, w10.heap.size ≤ k_ → (fun k_ => (w.heap.size ≤ k_) ∧ some k_ ≠ (.slice Ao9 y111.length co9 : Value).ownBlock) k_ from fun k_ hk => ⟨(Nat.le_trans (zaq (by repeat (first | (with_reducible first | exact HB.out | apply zad | apply zab | apply zae) | exact HB.out))) hk), Kd.fresh' (Kd.N_lt (by (with_reducible repeat (first | apply Kd.zaS | apply Kd.zaT | apply Kd.zbc)); exact HO113.out)) k_ hk⟩) _ (Nat.le_refl _)) (Below.refl _ _) (Nat.le_refl _) s9 ?_; (case hd => rfl); (case hg => rfl); (case hr => first | (go_simp; done) | (go_simp; rfl)); (case hp => exact (Reps.c3 (show Kd.FK k51 _ _ (⟨t114, t115, t118⟩ : S51) [.string t114, .slice Ao11 t115.length co11, .string t118] from (zem _ _ (⟨t114, t115, t118⟩ : S51) (Kd.zaU (Kd.zaz (ok' := (fun k_ => (w.heap.size ≤ k_) ∧ some k_ ≠ (.slice Ao9 y111.length co9 : Value).ownBlock)) (Kd.zbP (HO117.out) (Kd.zbZ HO113.out) d9) (fun k_ hk => ⟨hk.1.1, hk.2⟩))).2.1 (Kd.R_F (Kd.zaz (ok' := (fun k_ => (w.heap.size ≤ k_) ∧ some k_ ≠ (.slice Ao9 y111.length co9 : Value).ownBlock)) (Kd.zbP (HO117.out) (Kd.zbZ HO113.out) d9) (fun k_ hk => ⟨hk.1.1, hk.2⟩))))) (Reps.none _ _))); intro v120 w12 ho13 hb hg_ hnew_; clear hg_ hnew_; (first | rw [← Ny119.out] at ho13 | (simp only [Int.reduceToNat] at ho13; rw [← Ny119.out] at ho13)); have n0_ := zaa.mk (Kd.zba (by (with_reducible repeat (first | apply Kd.zaS | apply Kd.zaT | apply Kd.zbc)); exact HO113.out) (Kd.zdm ho13) hb); have n1_ := zaa.mk (Kd.zch ho13 (zaq (by repeat (first | (with_reducible first | exact HB.out | apply zad | apply zab | apply zae) | exact HB.out)))); have n2_ := zaa.mk (zaj (by repeat (first | (with_reducible first | exact HB.out | apply zad | apply zab | apply zae) | exact HB.out)) hb); clear HO113; clear HB; clear HO117; have HO113 := n0_; have HO121 := n1_; have HB := n2_; clear n0_ n1_ n2_; clear hb ho13; obtain ⟨Ao14, co14, eo14⟩ := Kd.zcs HO121.out; subst eo14) | ((with_reducible refine zaA (f := 22) rfl ?_); refine zbn (some 7) rfl rfl Tryd.func22 k9 rfl #[.string (⟨#[109]⟩ : ByteArray), .string (⟨#[115, 116, 114]⟩ : ByteArray), .string (⟨#[105, 110, 116]⟩ : ByteArray)] rfl m9 ?_; (with_reducible refine (zan.calls (⟨#[109]⟩ : ByteArray) (⟨#[115, 116, 114]⟩ : ByteArray) (⟨#[105, 110, 116]⟩ : ByteArray) t122 t123 t126 _ A3.out).mono ?_); rintro e w15 ⟨v124, rfl, ho0, hb⟩; refine ⟨_, rfl, ?_⟩; have n0_ := zaa.mk (Kd.zba (by (with_reducible repeat (first | apply Kd.zaS | apply Kd.zaT | apply Kd.zbc)); exact HO113.out) (Kd.zbA ho0) hb); have n1_ := zaa.mk (Kd.zba (by (with_reducible repeat (first | apply Kd.zaS | apply Kd.zaT | apply Kd.zbc)); exact HO121.out) (Kd.zbA ho0) hb); have n2_ := zaa.mk (Kd.zbm (Kd.zdD (M := fun k_ => (w.heap.size ≤ k_)) ho0 (zaq (by repeat (first | (with_reducible first | exact HB.out | apply zad | apply zab | apply zae) | exact HB.out))) (fun k_ h_ => h_)) (zaq (by repeat (first | (with_reducible first | exact HB.out | apply zad | apply zab | apply zae) | exact HB.out)))); have n3_ := zaa.mk (zaj (by repeat (first | (with_reducible first | exact HB.out | apply zad | apply zab | apply zae) | exact HB.out)) hb); clear HO113; clear HO121; clear HB; have HO113 := n0_; have HO121 := n1_; have HO125 := n2_; have HB := n3_; clear n0_ n1_ n2_ n3_; (try clear hb); (try clear hb2); (try clear hk); (try clear hi); (try clear ho0); obtain ⟨Ao16, co16, eo16⟩ := Kd.zaR HO125.out; subst eo16) | ((with_reducible refine za6 (N := 8) rfl ?_); refine Kd.N_lit k51 _ 51 ?hg (N' := 8) ?hd (xs := ([(⟨t122, t123, t126⟩ : S51)] : List (S51))) (inner := [.string t122, .slice Ao16 t123.length co16, .string t126]) (ok := (fun k_ => (w.heap.size ≤ k_) ∧ some k_ ≠ (.slice Ao9 y111.length co9 : Value).ownBlock ∧ some k_ ≠ (.slice Ao14 y119.length co14 : Value).ownBlock)) (okp := (fun k_ => (w.heap.size ≤ k_) ∧ some k_ ≠ (.slice Ao9 y111.length co9 : Value).ownBlock ∧ some k_ ≠ (.slice Ao14 y119.length co14 : Value).ownBlock)) ?hr ?hp (fun _ hk => hk) ((show ∀ k_, w15.heap.size ≤ k_ → (fun k_ => (w.heap.size ≤ k_) ∧ some k_ ≠ (.slice Ao9 y111.length co9 : Value).ownBlock ∧ some k_ ≠ (.slice Ao14 y119.length co14 : Value).ownBlock) k_ from fun k_ hk => ⟨(Nat.le_trans (zaq (by repeat (first | (with_reducible first | exact HB.out | apply zad | apply zab | apply zae) | exact HB.out))) hk), Kd.fresh' (Kd.N_lt (by (with_reducible repeat (first | apply Kd.zaS | apply Kd.zaT | apply Kd.zbc)); exact HO113.out)) k_ hk, Kd.fresh' (Kd.N_lt (by (with_reducible repeat (first | apply Kd.zaS | apply Kd.zaT | apply Kd.zbc)); exact HO121.out)) k_ hk⟩) _ (Nat.le_refl _)) (Below.refl _ _) (Nat.le_refl _) s9 ?_; (case hd => rfl); (case hg => rfl); (case hr => first | (go_simp; done) | (go_simp; rfl)); (case hp => exact (Reps.c3 (show Kd.FK k51 _ _ (⟨t122, t123, t126⟩ : S51) [.string t122, .slice Ao16 t123.length co16, .string t126] from (zem _ _ (⟨t122, t123, t126⟩ : S51) (Kd.zaU (Kd.zaz (ok' := (fun k_ => (w.heap.size ≤ k_) ∧ some k_ ≠ (.slice Ao9 y111.length co9 : Value).ownBlock ∧ some k_ ≠ (.slice Ao14 y119.length co14 : Value).ownBlock)) (Kd.zbP (Kd.zbP (HO125.out) (Kd.zbZ HO113.out) d9) (Kd.zbZ HO121.out) d9) (fun k_ hk => ⟨hk.1.1.1, ⟨hk.1.2, hk.2⟩⟩))).2.1 (Kd.R_F (Kd.zaz (ok' := (fun k_ => (w.heap.size ≤ k_) ∧ some k_ ≠ (.slice Ao9 y111.length co9 : Value).ownBlock ∧ some k_ ≠ (.slice Ao14 y119.length co14 : Value).ownBlock)) (Kd.zbP (Kd.zbP (HO125.out) (Kd.zbZ HO113.out) d9) (Kd.zbZ HO121.out) d9) (fun k_ hk => ⟨hk.1.1.1, ⟨hk.1.2, hk.2⟩⟩))))) (Reps.none _ _))); intro v128 w17 ho18 hb hg_ hnew_; clear hg_ hnew_; (first | rw [← Ny127.out] at ho18 | (simp only [Int.reduceToNat] at ho18; rw [← Ny127.out] at ho18)); have n0_ := zaa.mk (Kd.zba (by (with_reducible repeat (first | apply Kd.zaS | apply Kd.zaT | apply Kd.zbc)); exact HO113.out) (Kd.zdm ho18) hb); have n1_ := zaa.mk (Kd.zba (by (with_reducible repeat (first | apply Kd.zaS | apply Kd.zaT | apply Kd.zbc)); exact HO121.out) (Kd.zdm ho18) hb); have n2_ := zaa.mk (Kd.zch ho18 (zaq (by repeat (first | (with_reducible first | exact HB.out | apply zad | apply zab | apply zae) | exact HB.out)))); have n3_ := zaa.mk (zaj (by repeat (first | (with_reducible first | exact HB.out | apply zad | apply zab | apply zae) | exact HB.out)) hb); clear HO113; clear HO121; clear HB; clear HO125; have HO113 := n0_; have HO121 := n1_; have HO129 := n2_; have HB := n3_; clear n0_ n1_ n2_ n3_; clear hb ho18; obtain ⟨Ao19, co19, eo19⟩ := Kd.zcs HO129.out; subst eo19) | ((with_reducible refine za6 (N := 11) rfl ?_); refine Kd.R_lit k48 _ 48 ?hg (N := 11) ?hd (xs := ([(⟨(⟨#[120]⟩ : ByteArray), (⟨#[65]⟩ : ByteArray)⟩ : S48)] : List (S48))) (inner := [.string (⟨#[120]⟩ : ByteArray), .string (⟨#[65]⟩ : ByteArray)]) (ok := fun _ => True) (okp := fun _ => True) ?hr ?hp (fun _ hk => hk) trivial (Below.refl _ _) (Nat.le_refl _) s9 ?_; (case hd => rfl); (case hg => rfl); (case hr => first | (go_simp; done) | (go_simp; rfl)); (case hp => exact (Reps.c2 (show Kd.M k48 _ _ _ (⟨(⟨#[120]⟩ : ByteArray), (⟨#[65]⟩ : ByteArray)⟩ : S48) [.string (⟨#[120]⟩ : ByteArray), .string (⟨#[65]⟩ : ByteArray)] from (zdg _ _ _ (⟨(⟨#[120]⟩ : ByteArray), (⟨#[65]⟩ : ByteArray)⟩ : S48) )) (Reps.none _ _))); intro v131 w20 ho21 hb hg_ hnew_; clear hg_ hnew_; (first | rw [← Ny130.out] at ho21 | (simp only [Int.reduceToNat] at ho21; rw [← Ny130.out] at ho21)); have n0_ := zaa.mk (Kd.zba (by (with_reducible repeat (first | apply Kd.zaS | apply Kd.zaT | apply Kd.zbc)); exact HO113.out) (Kd.zbA ho21) hb); have n1_ := zaa.mk (Kd.zba (by (with_reducible repeat (first | apply Kd.zaS | apply Kd.zaT | apply Kd.zbc)); exact HO121.out) (Kd.zbA ho21) hb); have n2_ := zaa.mk (Kd.zba (by (with_reducible repeat (first | apply Kd.zaS | apply Kd.zaT | apply Kd.zbc)); exact HO129.out) (Kd.zbA ho21) hb); have n3_ := zaa.mk (Kd.zbm (Kd.zdD (M := fun k_ => (w.heap.size ≤ k_)) ho21 (zaq (by repeat (first | (with_reducible first | exact HB.out | apply zad | apply zab | apply zae) | exact HB.out))) (fun k_ h_ => h_)) (zaq (by repeat (first | (with_reducible first | exact HB.out | apply zad | apply zab | apply zae) | exact HB.out)))); have n4_ := zaa.mk (zaj (by repeat (first | (with_reducible first | exact HB.out | apply zad | apply zab | apply zae) | exact HB.out)) hb); clear HO113; clear HO121; clear HO129; clear HB; have HO113 := n0_; have HO121 := n1_; have HO129 := n2_; have HO132 := n3_; have HB := n4_; clear n0_ n1_ n2_ n3_ n4_; clear hb ho21) | ((with_reducible refine zaA (f := 22) rfl ?_); refine zbn (some 12) rfl rfl Tryd.func22 k9 rfl #[.string (⟨#[109]⟩ : ByteArray), .string (⟨#[105, 110, 116]⟩ : ByteArray), .string (⟨#[105, 110, 116]⟩ : ByteArray)] rfl m9 ?_; (with_reducible refine (zan.calls (⟨#[109]⟩ : ByteArray) (⟨#[105, 110, 116]⟩ : ByteArray) (⟨#[105, 110, 116]⟩ : ByteArray) t133 t134 t137 _ A4.out).mono ?_); rintro e w22 ⟨v135, rfl, ho0, hb⟩; refine ⟨_, rfl, ?_⟩; have n0_ := zaa.mk (Kd.zba (by (with_reducible repeat (first | apply Kd.zaS | apply Kd.zaT | apply Kd.zbc)); exact HO113.out) (Kd.zbA ho0) hb); have n1_ := zaa.mk (Kd.zba (by (with_reducible repeat (first | apply Kd.zaS | apply Kd.zaT | apply Kd.zbc)); exact HO121.out) (Kd.zbA ho0) hb); have n2_ := zaa.mk (Kd.zba (by (with_reducible repeat (first | apply Kd.zaS | apply Kd.zaT | apply Kd.zbc)); exact HO129.out) (Kd.zbA ho0) hb); have n3_ := zaa.mk (Kd.zcq (by (with_reducible repeat (first | apply Kd.zaH | apply Kd.zaN | apply Kd.zaX)); exact HO132.out) (Kd.zbA ho0) hb); have n4_ := zaa.mk (Kd.zbm (Kd.zdL (Kd.zdD (M := fun k_ => (w.heap.size ≤ k_)) ho0 (zaq (by repeat (first | (with_reducible first | exact HB.out | apply zad | apply zab | apply zae) | exact HB.out))) (fun k_ h_ => h_)) (Kd.R_lt (by (with_reducible repeat (first | apply Kd.zaH | apply Kd.zaN | apply Kd.zaX)); exact HO132.out))) (zaq (by repeat (first | (with_reducible first | exact HB.out | apply zad | apply zab | apply zae) | exact HB.out)))); have n5_ := zaa.mk (zaj (by repeat (first | (with_reducible first | exact HB.out | apply zad | apply zab | apply zae) | exact HB.out)) hb); clear HO113; clear HO121; clear HO129; clear HO132; clear HB; have HO113 := n0_; have HO121 := n1_; have HO129 := n2_; have HO132 := n3_; have HO136 := n4_; have HB := n5_; clear n0_ n1_ n2_ n3_ n4_ n5_; (try clear hb); (try clear hb2); (try clear hk); (try clear hi); (try clear ho0); obtain ⟨Ao23, co23, eo23⟩ := Kd.zaR HO136.out; subst eo23) | ((with_reducible refine za6 (N := 13) rfl ?_); refine Kd.N_lit k51 _ 51 ?hg (N' := 13) ?hd (xs := ([(⟨t133, t134, t137⟩ : S51)] : List (S51))) (inner := [.string t133, .slice Ao23 t134.length co23, .string t137]) (ok := (fun k_ => (w.heap.size ≤ k_) ∧ some k_ ≠ (.slice Ao9 y111.length co9 : Value).ownBlock ∧ some k_ ≠ (.slice Ao14 y119.length co14 : Value).ownBlock ∧ some k_ ≠ (.slice Ao19 y127.length co19 : Value).ownBlock ∧ some k_ ≠ (v131 : Value).ownBlock)) (okp := (fun k_ => (w.heap.size ≤ k_) ∧ some k_ ≠ (.slice Ao9 y111.length co9 : Value).ownBlock ∧ some k_ ≠ (.slice Ao14 y119.length co14 : Value).ownBlock ∧ some k_ ≠ (.slice Ao19 y127.length co19 : Value).ownBlock ∧ some k_ ≠ (v131 : Value).ownBlock)) ?hr ?hp (fun _ hk => hk) ((show ∀ k_, w22.heap.size ≤ k_ → (fun k_ => (w.heap.size ≤ k_) ∧ some k_ ≠ (.slice Ao9 y111.length co9 : Value).ownBlock ∧ some k_ ≠ (.slice Ao14 y119.length co14 : Value).ownBlock ∧ some k_ ≠ (.slice Ao19 y127.length co19 : Value).ownBlock ∧ some k_ ≠ (v131 : Value).ownBlock) k_ from fun k_ hk => ⟨(Nat.le_trans (zaq (by repeat (first | (with_reducible first | exact HB.out | apply zad | apply zab | apply zae) | exact HB.out))) hk), Kd.fresh' (Kd.N_lt (by (with_reducible repeat (first | apply Kd.zaS | apply Kd.zaT | apply Kd.zbc)); exact HO113.out)) k_ hk, Kd.fresh' (Kd.N_lt (by (with_reducible repeat (first | apply Kd.zaS | apply Kd.zaT | apply Kd.zbc)); exact HO121.out)) k_ hk, Kd.fresh' (Kd.N_lt (by (with_reducible repeat (first | apply Kd.zaS | apply Kd.zaT | apply Kd.zbc)); exact HO129.out)) k_ hk, Kd.fresh' (Kd.R_lt (by (with_reducible repeat (first | apply Kd.zaH | apply Kd.zaN | apply Kd.zaX)); exact HO132.out)) k_ hk⟩) _ (Nat.le_refl _)) (Below.refl _ _) (Nat.le_refl _) s9 ?_; (case hd => rfl); (case hg => rfl); (case hr => first | (go_simp; done) | (go_simp; rfl)); (case hp => exact (Reps.c3 (show Kd.FK k51 _ _ (⟨t133, t134, t137⟩ : S51) [.string t133, .slice Ao23 t134.length co23, .string t137] from (zem _ _ (⟨t133, t134, t137⟩ : S51) (Kd.zaU (Kd.zaz (ok' := (fun k_ => (w.heap.size ≤ k_) ∧ some k_ ≠ (.slice Ao9 y111.length co9 : Value).ownBlock ∧ some k_ ≠ (.slice Ao14 y119.length co14 : Value).ownBlock ∧ some k_ ≠ (.slice Ao19 y127.length co19 : Value).ownBlock ∧ some k_ ≠ (v131 : Value).ownBlock)) (Kd.zbP (Kd.zbP (Kd.zbP (HO136.out) (Kd.zbZ HO113.out) d9) (Kd.zbZ HO121.out) d9) (Kd.zbZ HO129.out) d9) (fun k_ hk => ⟨hk.1.1.1.1.1, ⟨hk.1.1.2, ⟨hk.1.2, ⟨hk.2, hk.1.1.1.2⟩⟩⟩⟩))).2.1 (Kd.R_F (Kd.zaz (ok' := (fun k_ => (w.heap.size ≤ k_) ∧ some k_ ≠ (.slice Ao9 y111.length co9 : Value).ownBlock ∧ some k_ ≠ (.slice Ao14 y119.length co14 : Value).ownBlock ∧ some k_ ≠ (.slice Ao19 y127.length co19 : Value).ownBlock ∧ some k_ ≠ (v131 : Value).ownBlock)) (Kd.zbP (Kd.zbP (Kd.zbP (HO136.out) (Kd.zbZ HO113.out) d9) (Kd.zbZ HO121.out) d9) (Kd.zbZ HO129.out) d9) (fun k_ hk => ⟨hk.1.1.1.1.1, ⟨hk.1.1.2, ⟨hk.1.2, ⟨hk.2, hk.1.1.1.2⟩⟩⟩⟩))))) (Reps.none _ _))); intro v139 w24 ho25 hb hg_ hnew_; clear hg_ hnew_; (first | rw [← Ny138.out] at ho25 | (simp only [Int.reduceToNat] at ho25; rw [← Ny138.out] at ho25)); have n0_ := zaa.mk (Kd.zba (by (with_reducible repeat (first | apply Kd.zaS | apply Kd.zaT | apply Kd.zbc)); exact HO113.out) (Kd.zdm ho25) hb); have n1_ := zaa.mk (Kd.zba (by (with_reducible repeat (first | apply Kd.zaS | apply Kd.zaT | apply Kd.zbc)); exact HO121.out) (Kd.zdm ho25) hb); have n2_ := zaa.mk (Kd.zba (by (with_reducible repeat (first | apply Kd.zaS | apply Kd.zaT | apply Kd.zbc)); exact HO129.out) (Kd.zdm ho25) hb); have n3_ := zaa.mk (Kd.zaY (by (with_reducible repeat (first | apply Kd.zaH | apply Kd.zaN | apply Kd.zaX)); exact HO132.out) hb); have n4_ := zaa.mk (Kd.zch ho25 (zaq (by repeat (first | (with_reducible first | exact HB.out | apply zad | apply zab | apply zae) | exact HB.out)))); have n5_ := zaa.mk (zaj (by repeat (first | (with_reducible first | exact HB.out | apply zad | apply zab | apply zae) | exact HB.out)) hb); clear HO113; clear HO121; clear HO129; clear HO132; clear HB; clear HO136; have HO113 := n0_; have HO121 := n1_; have HO129 := n2_; have HO132 := n3_; have HO140 := n4_; have HB := n5_; clear n0_ n1_ n2_ n3_ n4_ n5_; clear hb ho25; obtain ⟨Ao26, co26, eo26⟩ := Kd.zcs HO140.out; subst eo26; obtain ⟨Ao27, co27, eo27⟩ := Kd.zaR HO132.out; subst eo27) | ((with_reducible refine za6 (N := 17) rfl ?_); refine Kd.R_lit k48 _ 48 ?hg (N := 17) ?hd (xs := ([(⟨(⟨#[110, 101, 120, 116]⟩ : ByteArray), (⟨#[69]⟩ : ByteArray)⟩ : S48), (⟨(⟨#[120]⟩ : ByteArray), (⟨#[63]⟩ : ByteArray)⟩ : S48)] : List (S48))) (inner := [.string (⟨#[110, 101, 120, 116]⟩ : ByteArray), .string (⟨#[69]⟩ : ByteArray), .string (⟨#[120]⟩ : ByteArray), .string (⟨#[63]⟩ : ByteArray)]) (ok := fun _ => True) (okp := fun _ => True) ?hr ?hp (fun _ hk => hk) trivial (Below.refl _ _) (Nat.le_refl _) s9 ?_; (case hd => rfl); (case hg => rfl); (case hr => first | (go_simp; done) | (go_simp; rfl)); (case hp => exact (Reps.c2 (show Kd.M k48 _ _ _ (⟨(⟨#[110, 101, 120, 116]⟩ : ByteArray), (⟨#[69]⟩ : ByteArray)⟩ : S48) [.string (⟨#[110, 101, 120, 116]⟩ : ByteArray), .string (⟨#[69]⟩ : ByteArray)] from (zdg _ _ _ (⟨(⟨#[110, 101, 120, 116]⟩ : ByteArray), (⟨#[69]⟩ : ByteArray)⟩ : S48) )) (Reps.c2 (show Kd.M k48 _ _ _ (⟨(⟨#[120]⟩ : ByteArray), (⟨#[63]⟩ : ByteArray)⟩ : S48) [.string (⟨#[120]⟩ : ByteArray), .string (⟨#[63]⟩ : ByteArray)] from (zdg _ _ _ (⟨(⟨#[120]⟩ : ByteArray), (⟨#[63]⟩ : ByteArray)⟩ : S48) )) (Reps.none _ _)))); intro v142 w28 ho29 hb hg_ hnew_; clear hg_ hnew_; (first | rw [← Ny141.out] at ho29 | (simp only [Int.reduceToNat] at ho29; rw [← Ny141.out] at ho29)); have n0_ := zaa.mk (Kd.zba (by (with_reducible repeat (first | apply Kd.zaS | apply Kd.zaT | apply Kd.zbc)); exact HO113.out) (Kd.zbA ho29) hb); have n1_ := zaa.mk (Kd.zba (by (with_reducible repeat (first | apply Kd.zaS | apply Kd.zaT | apply Kd.zbc)); exact HO121.out) (Kd.zbA ho29) hb); have n2_ := zaa.mk (Kd.zba (by (with_reducible repeat (first | apply Kd.zaS | apply Kd.zaT | apply Kd.zbc)); exact HO129.out) (Kd.zbA ho29) hb); have n3_ := zaa.mk (Kd.zcq (by (with_reducible repeat (first | apply Kd.zaH | apply Kd.zaN | apply Kd.zaX)); exact HO132.out) (Kd.zbA ho29) hb); have n4_ := zaa.mk (Kd.zba (by (with_reducible repeat (first | apply Kd.zaS | apply Kd.zaT | apply Kd.zbc)); exact HO140.out) (Kd.zbA ho29) hb); have n5_ := zaa.mk (Kd.zbm (Kd.zdL (Kd.zdD (M := fun k_ => (w.heap.size ≤ k_)) ho29 (zaq (by repeat (first | (with_reducible first | exact HB.out | apply zad | apply zab | apply zae) | exact HB.out))) (fun k_ h_ => h_)) (Kd.R_lt (by (with_reducible repeat (first | apply Kd.zaH | apply Kd.zaN | apply Kd.zaX)); exact HO132.out))) (zaq (by repeat (first | (with_reducible first | exact HB.out | apply zad | apply zab | apply zae) | exact HB.out)))); have n6_ := zaa.mk (zaj (by repeat (first | (with_reducible first | exact HB.out | apply zad | apply zab | apply zae) | exact HB.out)) hb); clear HO113; clear HO121; clear HO129; clear HO132; clear HO140; clear HB; have HO113 := n0_; have HO121 := n1_; have HO129 := n2_; have HO132 := n3_; have HO140 := n4_; have HO143 := n5_; have HB := n6_; clear n0_ n1_ n2_ n3_ n4_ n5_ n6_; clear hb ho29; obtain ⟨Ao30, co30, eo30⟩ := Kd.zaR HO143.out; subst eo30) | ((with_reducible refine za6 (N := 21) rfl ?_); refine Kd.R_lit k48 _ 48 ?hg (N := 21) ?hd (xs := ([(⟨(⟨#[110, 101, 120, 116]⟩ : ByteArray), (⟨#[70]⟩ : ByteArray)⟩ : S48), (⟨(⟨#[120]⟩ : ByteArray), (⟨#[105, 110, 116]⟩ : ByteArray)⟩ : S48)] : List (S48))) (inner := [.string (⟨#[110, 101, 120, 116]⟩ : ByteArray), .string (⟨#[70]⟩ : ByteArray), .string (⟨#[120]⟩ : ByteArray), .string (⟨#[105, 110, 116]⟩ : ByteArray)]) (ok := fun _ => True) (okp := fun _ => True) ?hr ?hp (fun _ hk => hk) trivial (Below.refl _ _) (Nat.le_refl _) s9 ?_; (case hd => rfl); (case hg => rfl); (case hr => first | (go_simp; done) | (go_simp; rfl)); (case hp => exact (Reps.c2 (show Kd.M k48 _ _ _ (⟨(⟨#[110, 101, 120, 116]⟩ : ByteArray), (⟨#[70]⟩ : ByteArray)⟩ : S48) [.string (⟨#[110, 101, 120, 116]⟩ : ByteArray), .string (⟨#[70]⟩ : ByteArray)] from (zdg _ _ _ (⟨(⟨#[110, 101, 120, 116]⟩ : ByteArray), (⟨#[70]⟩ : ByteArray)⟩ : S48) )) (Reps.c2 (show Kd.M k48 _ _ _ (⟨(⟨#[120]⟩ : ByteArray), (⟨#[105, 110, 116]⟩ : ByteArray)⟩ : S48) [.string (⟨#[120]⟩ : ByteArray), .string (⟨#[105, 110, 116]⟩ : ByteArray)] from (zdg _ _ _ (⟨(⟨#[120]⟩ : ByteArray), (⟨#[105, 110, 116]⟩ : ByteArray)⟩ : S48) )) (Reps.none _ _)))); intro v145 w31 ho32 hb hg_ hnew_; clear hg_ hnew_; (first | rw [← Ny144.out] at ho32 | (simp only [Int.reduceToNat] at ho32; rw [← Ny144.out] at ho32)); have n0_ := zaa.mk (Kd.zba (by (with_reducible repeat (first | apply Kd.zaS | apply Kd.zaT | apply Kd.zbc)); exact HO113.out) (Kd.zbA ho32) hb); have n1_ := zaa.mk (Kd.zba (by (with_reducible repeat (first | apply Kd.zaS | apply Kd.zaT | apply Kd.zbc)); exact HO121.out) (Kd.zbA ho32) hb); have n2_ := zaa.mk (Kd.zba (by (with_reducible repeat (first | apply Kd.zaS | apply Kd.zaT | apply Kd.zbc)); exact HO129.out) (Kd.zbA ho32) hb); have n3_ := zaa.mk (Kd.zcq (by (with_reducible repeat (first | apply Kd.zaH | apply Kd.zaN | apply Kd.zaX)); exact HO132.out) (Kd.zbA ho32) hb); have n4_ := zaa.mk (Kd.zba (by (with_reducible repeat (first | apply Kd.zaS | apply Kd.zaT | apply Kd.zbc)); exact HO140.out) (Kd.zbA ho32) hb); have n5_ := zaa.mk (Kd.zcq (by (with_reducible repeat (first | apply Kd.zaH | apply Kd.zaN | apply Kd.zaX)); exact HO143.out) (Kd.zbA ho32) hb); have n6_ := zaa.mk (Kd.zbm (Kd.zdL (Kd.zdL (Kd.zdD (M := fun k_ => (w.heap.size ≤ k_)) ho32 (zaq (by repeat (first | (with_reducible first | exact HB.out | apply zad | apply zab | apply zae) | exact HB.out))) (fun k_ h_ => h_)) (Kd.R_lt (by (with_reducible repeat (first | apply Kd.zaH | apply Kd.zaN | apply Kd.zaX)); exact HO132.out))) (Kd.R_lt (by (with_reducible repeat (first | apply Kd.zaH | apply Kd.zaN | apply Kd.zaX)); exact HO143.out))) (zaq (by repeat (first | (with_reducible first | exact HB.out | apply zad | apply zab | apply zae) | exact HB.out)))); have n7_ := zaa.mk (zaj (by repeat (first | (with_reducible first | exact HB.out | apply zad | apply zab | apply zae) | exact HB.out)) hb); clear HO113; clear HO121; clear HO129; clear HO132; clear HO140; clear HO143; clear HB; have HO113 := n0_; have HO121 := n1_; have HO129 := n2_; have HO132 := n3_; have HO140 := n4_; have HO143 := n5_; have HO146 := n6_; have HB := n7_; clear n0_ n1_ n2_ n3_ n4_ n5_ n6_ n7_; clear hb ho32; obtain ⟨Ao33, co33, eo33⟩ := Kd.zaR HO146.out; subst eo33) | ((with_reducible refine za6 (N := 23) rfl ?_); refine Kd.N_lit k43 _ 43 ?hg (N' := 23) ?hd (xs := ([(⟨(⟨#[65]⟩ : ByteArray), (⟨#[]⟩ : ByteArray), ([] : List (S48)), y111⟩ : S43), (⟨(⟨#[66]⟩ : ByteArray), (⟨#[]⟩ : ByteArray), ([] : List (S48)), y119⟩ : S43), (⟨(⟨#[67]⟩ : ByteArray), (⟨#[]⟩ : ByteArray), ([] : List (S48)), y127⟩ : S43), (⟨(⟨#[68]⟩ : ByteArray), (⟨#[]⟩ : ByteArray), y130, y138⟩ : S43), (⟨(⟨#[69]⟩ : ByteArray), (⟨#[]⟩ : ByteArray), y141, ([] : List (S51))⟩ : S43), (⟨(⟨#[70]⟩ : ByteArray), (⟨#[]⟩ : ByteArray), y144, ([] : List (S51))⟩ : S43)] : List (S43))) (inner := [.string (⟨#[65]⟩ : ByteArray), .string (⟨#[]⟩ : ByteArray), .slice none 0 0, .slice Ao9 y111.length co9, .string (⟨#[66]⟩ : ByteArray), .string (⟨#[]⟩ : ByteArray), .slice none 0 0, .slice Ao14 y119.length co14, .string (⟨#[67]⟩ : ByteArray), .string (⟨#[]⟩ : ByteArray), .slice none 0 0, .slice Ao19 y127.length co19, .string (⟨#[68]⟩ : ByteArray), .string (⟨#[]⟩ : ByteArray), .slice Ao27 y130.length co27, .slice Ao26 y138.length co26, .string (⟨#[69]⟩ : ByteArray), .string (⟨#[]⟩ : ByteArray), .slice Ao30 y141.length co30, .slice none 0 0, .string (⟨#[70]⟩ : ByteArray), .string (⟨#[]⟩ : ByteArray), .slice Ao33 y144.length co33, .slice none 0 0]) (ok := (fun k_ => (w.heap.size ≤ k_))) (okp := (fun k_ => (w.heap.size ≤ k_))) ?hr ?hp (fun _ hk => hk) ((show ∀ k_, w31.heap.size ≤ k_ → (fun k_ => (w.heap.size ≤ k_)) k_ from fun k_ hk => (Nat.le_trans (zaq (by repeat (first | (with_reducible first | exact HB.out | apply zad | apply zab | apply zae) | exact HB.out))) hk)) _ (Nat.le_refl _)) (Below.refl _ _) (Nat.le_refl _) s9 ?_; (case hd => rfl); (case hg => rfl); (case hr => first | (go_simp; done) | (go_simp; rfl)); (case hp => exact (Reps.c4 (show Kd.FK k43 _ _ (⟨(⟨#[65]⟩ : ByteArray), (⟨#[]⟩ : ByteArray), ([] : List (S48)), y111⟩ : S43) [.string (⟨#[65]⟩ : ByteArray), .string (⟨#[]⟩ : ByteArray), .slice none 0 0, .slice Ao9 y111.length co9] from (zdc _ _ (⟨(⟨#[65]⟩ : ByteArray), (⟨#[]⟩ : ByteArray), ([] : List (S48)), y111⟩ : S43) (Nat.le_refl _) (Kd.F_nil _ _ _) (Kd.zbD (Kd.zcb (ok' := (fun k_ => (w.heap.size ≤ k_))) (HO113.out) (fun k_ hk => hk.1.1.1.1.1.1.1.1.1))).2.1 (Kd.N_F (Kd.zcb (ok' := (fun k_ => (w.heap.size ≤ k_))) (HO113.out) (fun k_ hk => hk.1.1.1.1.1.1.1.1.1))))) (Reps.c4 (show Kd.FK k43 _ _ (⟨(⟨#[66]⟩ : ByteArray), (⟨#[]⟩ : ByteArray), ([] : List (S48)), y119⟩ : S43) [.string (⟨#[66]⟩ : ByteArray), .string (⟨#[]⟩ : ByteArray), .slice none 0 0, .slice Ao14 y119.length co14] from (zdc _ _ (⟨(⟨#[66]⟩ : ByteArray), (⟨#[]⟩ : ByteArray), ([] : List (S48)), y119⟩ : S43) (Nat.le_refl _) (Kd.F_nil _ _ _) (Kd.zbD (Kd.zcb (ok' := (fun k_ => (w.heap.size ≤ k_))) (HO121.out) (fun k_ hk => hk.1.1.1.1.1.1.1.1))).2.1 (Kd.N_F (Kd.zcb (ok' := (fun k_ => (w.heap.size ≤ k_))) (HO121.out) (fun k_ hk => hk.1.1.1.1.1.1.1.1))))) (Reps.c4 (show Kd.FK k43 _ _ (⟨(⟨#[67]⟩ : ByteArray), (⟨#[]⟩ : ByteArray), ([] : List (S48)), y127⟩ : S43) [.string (⟨#[67]⟩ : ByteArray), .string (⟨#[]⟩ : ByteArray), .slice none 0 0, .slice Ao19 y127.length co19] from (zdc _ _ (⟨(⟨#[67]⟩ : ByteArray), (⟨#[]⟩ : ByteArray), ([] : List (S48)), y127⟩ : S43) (Nat.le_refl _) (Kd.F_nil _ _ _) (Kd.zbD (Kd.zcb (ok' := (fun k_ => (w.heap.size ≤ k_))) (HO129.out) (fun k_ hk => hk.1.1.1.1.1.1))).2.1 (Kd.N_F (Kd.zcb (ok' := (fun k_ => (w.heap.size ≤ k_))) (HO129.out) (fun k_ hk => hk.1.1.1.1.1.1))))) (Reps.c4 (show Kd.FK k43 _ _ (⟨(⟨#[68]⟩ : ByteArray), (⟨#[]⟩ : ByteArray), y130, y138⟩ : S43) [.string (⟨#[68]⟩ : ByteArray), .string (⟨#[]⟩ : ByteArray), .slice Ao27 y130.length co27, .slice Ao26 y138.length co26] from (zdc _ _ (⟨(⟨#[68]⟩ : ByteArray), (⟨#[]⟩ : ByteArray), y130, y138⟩ : S43) (Kd.zaU (Kd.zaz (ok' := (fun k_ => (w.heap.size ≤ k_))) (HO132.out) (fun k_ hk => hk.1.1.1.1))).2.1 (Kd.R_F (Kd.zaz (ok' := (fun k_ => (w.heap.size ≤ k_))) (HO132.out) (fun k_ hk => hk.1.1.1.1))) (Kd.zbD (Kd.zcb (ok' := (fun k_ => (w.heap.size ≤ k_))) (HO140.out) (fun k_ hk => hk.1.1.1))).2.1 (Kd.N_F (Kd.zcb (ok' := (fun k_ => (w.heap.size ≤ k_))) (HO140.out) (fun k_ hk => hk.1.1.1))))) (Reps.c4 (show Kd.FK k43 _ _ (⟨(⟨#[69]⟩ : ByteArray), (⟨#[]⟩ : ByteArray), y141, ([] : List (S51))⟩ : S43) [.string (⟨#[69]⟩ : ByteArray), .string (⟨#[]⟩ : ByteArray), .slice Ao30 y141.length co30, .slice none 0 0] from (zdc _ _ (⟨(⟨#[69]⟩ : ByteArray), (⟨#[]⟩ : ByteArray), y141, ([] : List (S51))⟩ : S43) (Kd.zaU (Kd.zaz (ok' := (fun k_ => (w.heap.size ≤ k_))) (HO143.out) (fun k_ hk => hk.1.1.1))).2.1 (Kd.R_F (Kd.zaz (ok' := (fun k_ => (w.heap.size ≤ k_))) (HO143.out) (fun k_ hk => hk.1.1.1))) (Nat.le_refl _) (Kd.F_nil _ _ _))) (Reps.c4 (show Kd.FK k43 _ _ (⟨(⟨#[70]⟩ : ByteArray), (⟨#[]⟩ : ByteArray), y144, ([] : List (S51))⟩ : S43) [.string (⟨#[70]⟩ : ByteArray), .string (⟨#[]⟩ : ByteArray), .slice Ao33 y144.length co33, .slice none 0 0] from (zdc _ _ (⟨(⟨#[70]⟩ : ByteArray), (⟨#[]⟩ : ByteArray), y144, ([] : List (S51))⟩ : S43) (Kd.zaU (Kd.zaz (ok' := (fun k_ => (w.heap.size ≤ k_))) (HO146.out) (fun k_ hk => hk.1.1.1))).2.1 (Kd.R_F (Kd.zaz (ok' := (fun k_ => (w.heap.size ≤ k_))) (HO146.out) (fun k_ hk => hk.1.1.1))) (Nat.le_refl _) (Kd.F_nil _ _ _))) (Reps.none _ _)))))))); intro v148 w34 ho35 hb hg_ hnew_; clear hg_ hnew_; (first | rw [← Ny147.out] at ho35 | (simp only [Int.reduceToNat] at ho35; rw [← Ny147.out] at ho35)); have n0_ := zaa.mk (Kd.zch ho35 (zaq (by repeat (first | (with_reducible first | exact HB.out | apply zad | apply zab | apply zae) | exact HB.out)))); have n1_ := zaa.mk (zaj (by repeat (first | (with_reducible first | exact HB.out | apply zad | apply zab | apply zae) | exact HB.out)) hb); clear HB; clear HO113; clear HO121; clear HO129; clear HO132; clear HO140; clear HO143; clear HO146; have HO149 := n0_; have HB := n1_; clear n0_ n1_; clear hb ho35))
 go_ret
 exact ⟨_, by first | rfl | (simp [zaF, zaG] <;> rfl) | (simp [*, zaF, zaG] <;> rfl), by (with_reducible repeat (first | apply Kd.zaS | apply Kd.zaT | apply Kd.zbc)); exact HO149.out, by repeat (first | (with_reducible first | exact HB.out | apply zad | apply zab | apply zae) | exact HB.out)⟩
end Go.Proofs.YtfhgmebhdchegaaDoor.PAll
end

section
namespace Go.Proofs.YtfhgmebhdchegaaDoorTab
open Go.RowKit Go.Proofs.YtfhgmebhdchegaaDoor.PAll Go.Proofs.YtfhgmebhdchegaaDoorW.zai Go.Proofs.YtfhgmebhdchegaaDoorW.zas Go.Proofs.YtfhgmebhdchegaaDoorRF Go.Proofs.YtfhgmebhdchegaaDoorRG
structure Wy where
 nm : ByteArray
 a : ByteArray
 b : ByteArray
def mth (t : List (S43)) (s nm : ByteArray) : S51 := methM t nm (methodAt t nm (lineL t s))
def fwL (t : List (S43)) (s : ByteArray) (f : S48) : List Wy := [⟨f.f0, zcl t s f.f0, f.f1⟩, ⟨f.f0, f.f1, zcl t s f.f0⟩]
def pwL (nm : ByteArray) (ps qs : List (S48)) : List Wy := List.zipWith (fun p q => ⟨nm, p.f1, q.f1⟩) ps qs
def mwL (t : List (S43)) (s : ByteArray) (m : S51) : List Wy := ⟨m.f0, (mth t s m.f0).f2, m.f2⟩ :: pwL m.f0 m.f1 (mth t s m.f0).f1
def waysL (t : List (S43)) (s u : ByteArray) : List Wy := (zbH t u).flatMap (fwL t s) ++ (zcZ t u).flatMap (mwL t s)
def zgY (t : List (S43)) (s u : ByteArray) : Bool := (zcZ t u).all fun m => decide (m.f1.length ≤ (mth t s m.f0).f1.length)
def belB (t : List (S43)) (s u : ByteArray) : Bool := (s.toList == u.toList) || hasN u (supL t s)
def goesB (t : List (S43)) (S : List (Nat × Nat)) (s u : ByteArray) : Bool :=
 (s.toList == [63]) || (u.toList == [63]) || belB t s u || (is1 t s && is1 t u && decide (((at1 t s).toNat, (at1 t u).toNat) ∉ S))
def zcR (t : List (S43)) (H : ByteArray → ByteArray → Bool) (S : List (Nat × Nat)) (i k : Nat) : Bool :=
 decide ((i, k) ∉ S) && !belB t (clsAt t i).f0 (clsAt t k).f0 && !(H (clsAt t i).f0 (clsAt t k).f0 && (waysL t (clsAt t i).f0 (clsAt t k).f0).all fun w => goesB t S w.a w.b)
def stepF (t : List (S43)) (H : ByteArray → ByteArray → Bool) (i : Nat) (st : List (Nat × Nat) × Nat) (k : Nat) : List (Nat × Nat) × Nat :=
 if zcR t H st.1 i k = true then ((i, k) :: st.1, st.2 + 1) else st
def rowF (t : List (S43)) (H : ByteArray → ByteArray → Bool) (i n : Nat) (st : List (Nat × Nat) × Nat) : List (Nat × Nat) × Nat := (List.range n).foldl (stepF t H i) st
def rowsF (t : List (S43)) (H : ByteArray → ByteArray → Bool) (n : Nat) (S : List (Nat × Nat)) : List (Nat × Nat) × Nat := (List.range n).foldl (fun st i => rowF t H i t.length st) (S, 0)
def allF (t : List (S43)) (H : ByteArray → ByteArray → Bool) : Nat → List (Nat × Nat) → Option (List (Nat × Nat))
 | 0, _ => none
 | k + 1, S => if (rowsF t H t.length S).2 = 0 then some (rowsF t H t.length S).1 else allF t H k (rowsF t H t.length S).1
theorem zc0 (t : List (S43)) (H : ByteArray → ByteArray → Bool) (i n : Nat) (st : List (Nat × Nat) × Nat) : rowF t H i (n + 1) st = stepF t H i (rowF t H i n st) n := by
 unfold rowF; rw [List.range_succ, List.foldl_append]; rfl
theorem zco (t : List (S43)) (H : ByteArray → ByteArray → Bool) (n : Nat) (S : List (Nat × Nat)) : rowsF t H (n + 1) S = rowF t H n t.length (rowsF t H n S) := by
 unfold rowsF; rw [List.range_succ, List.foldl_append]; rfl
theorem zgJ (t : List (S43)) (H : ByteArray → ByteArray → Bool) (i : Nat) (st : List (Nat × Nat) × Nat) (k : Nat) : (stepF t H i st k).2 ≤ st.2 + 1 := by
 unfold stepF; split <;> simp
theorem ze0 (t : List (S43)) (H : ByteArray → ByteArray → Bool) (i : Nat) (st : List (Nat × Nat) × Nat) : ∀ n, (rowF t H i n st).2 ≤ st.2 + n
 | 0 => Nat.le_refl _
 | n + 1 => by rw [zc0]; have h1 := zgJ t H i (rowF t H i n st) n; have h2 := ze0 t H i st n; omega
theorem zfl (t : List (S43)) (H : ByteArray → ByteArray → Bool) (S : List (Nat × Nat)) : ∀ n, (rowsF t H n S).2 ≤ n * t.length
 | 0 => Nat.zero_le _
 | n + 1 => by rw [zco, Nat.succ_mul]; have h1 := ze0 t H n (rowsF t H n S) t.length; have h2 := zfl t H S n; omega
theorem zer (t : List (S43)) (H : ByteArray → ByteArray → Bool) : ∀ (k : Nat) (S R : List (Nat × Nat)), allF t H k S = some R → allF t H (k + 1) S = some R
 | 0, S, R, h => by cases h
 | k + 1, S, R, h => by
  unfold allF at h ⊢
  by_cases h0 : (rowsF t H t.length S).2 = 0
  ·
   rw [if_pos h0] at h ⊢; exact h
  ·
   rw [if_neg h0] at h ⊢; exact zer t H k _ _ h
structure Mat (b : Nat) (S : List (Nat × Nat)) (W : World) (cs : Array Value) : Prop where
 lies : W.heap[b]? = some (.cells cs 96 (0, 0))
 size : cs.size = 1600
 at_ : ∀ i k, i < 40 → k < 40 → cs[i * 40 + k]? = some (.bool (decide ((i, k) ∉ S)))
end Go.Proofs.YtfhgmebhdchegaaDoorTab
end

section
namespace Go.Proofs.YtfhgmebhdchegaaDoorTab
open Go.RowKit Go.Proofs.YtfhgmebhdchegaaDoor.PAll Go.Proofs.YtfhgmebhdchegaaDoorW.zai Go.Proofs.YtfhgmebhdchegaaDoorW.zas Go.Proofs.YtfhgmebhdchegaaDoorRF Go.Proofs.YtfhgmebhdchegaaDoorRG Go.Proofs.YtfhgmebhdchegaaDoorWords
attribute [local go_sem] Oper.semAt_some
def idxP {α : Type} (p : α → Bool) : List α → Nat → Int
 | [], _ => -1
 | x :: r, i => if p x = true then (i : Int) else idxP p r (i + 1)
theorem zha {α : Type} (p : α → Bool) (z : α) (l : List α) (i : Nat) (h : i < l.length) : idxP p (l.drop i) i = if p (l.getD i z) = true then (i : Int) else idxP p (l.drop (i + 1)) (i + 1) := by
 rw [List.drop_eq_getElem_cons h, List.getD_eq_getElem?_getD, List.getElem?_eq_getElem h]; rfl
theorem ze9 {α : Type} (p : α → Bool) : ∀ (l : List α) (i : Nat), decide (idxP p l i ≥ 0) = l.any p
 | [], i => rfl
 | x :: r, i => by
  unfold idxP
  by_cases h : p x = true
  ·
   rw [if_pos h]; simp [h]
  ·
   rw [if_neg h, ze9 p r (i + 1)]; simp [h]
theorem zdO (t : List (S43)) : ∀ (k : Nat) (pre : List Nat) (nm : ByteArray), (lineP t k pre nm).length ≤ k
 | 0, _, _ => by simp [lineP]
 | k + 1, pre, nm => by
  unfold lineP
  split
  ·
   simp
  ·
   split
   ·
    simp
   ·
    have := zdO t k (pre ++ [(idxC nm t 0).toNat]) (clsAt t (idxC nm t 0).toNat).f1
    simp only [List.length_cons]; omega
theorem zgd (t : List (S43)) (nm : ByteArray) (h : t.length < 1000000) : (supL t nm).length < 4398046511104 := by
 have := zdO t (t.length + 1) [] nm
 have h2 : (supL t nm).length = (lineL t nm).length := by simp [supL]
 unfold lineL at h2; omega
def zbW (t : List (S43)) (s : ByteArray) : Bool := is1 t s || (s.toList == [63]) || ((tag2 s).2 == 0)
theorem zeR (A0 : Option Addr) (c0 : Nat) (t : List (S43)) (s : ByteArray) (w : World) (hr0 : Kd.C k43 w A0 t.length t) (hlt : t.length < 1000000) :
  Calls Tryd.prog 54 #[.agg #[.slice A0 t.length c0], .string s] w fun e w' => e = .returned (.bool (zbW t s)) ∧ Below w.heap.size w w' := by
 have hu := Tryd.underlying98
 obtain ⟨w1, hw1⟩ : ∃ w1, w1 = w.alloc (.cells #[.slice A0 t.length c0] 98) := ⟨_, rfl⟩
 have hb1 : Below w.heap.size w w1 := by rw [hw1]; exact (Below.refl _ _).alloc (Nat.le_refl _) _
 have HF := zaa.mk (zbL A0 c0 t s w1 (Kd.zay hr0 hb1) o9)
 have HB := zaa.mk hb1
 obtain ⟨r, hr⟩ : ∃ r, r = zbW t s := ⟨_, rfl⟩
 rw [← hr]
 have HQ := zaa.mk hr
 unfold zbW at HQ
 obtain ⟨b1, h1⟩ : ∃ b1, b1 = is1 t s := ⟨_, rfl⟩
 obtain ⟨b2, h2⟩ : ∃ b2, b2 = (s.toList == [63]) := ⟨_, rfl⟩
 rw [← h1] at HF HQ
 rw [← h2] at HQ
 clear hr h1 hr0 hb1
 go_enter Tryd.func54, Tryd.ntmps54
 go_wp2_with fail
 rw [← hw1]
 clear hw1
 refine HF.out.mono ?_
 rintro e w2 ⟨rfl, hb⟩
 replace HB := zaa.mk (HB.out.trans (hb.mono HB.out.size))
 have HBA := zaa.mk (zdT s w2)
 clear hb HF
 cases b1 with
 | true =>
  go_wp2_with fail
  go_ret
  exact ⟨by rw [HQ.out]; rfl, HB.out⟩
 | false =>
  have hq : (s.toList == [63]) = b2 := h2.symm
  clear h2
  cases b2 with
  | true =>
   go_wp2_with fail
   go_ret
   exact ⟨by rw [HQ.out]; rfl, HB.out⟩
  | false =>
   obtain ⟨b3, h3⟩ : ∃ b3, b3 = ((tag2 s).2 == 0) := ⟨_, rfl⟩
   rw [← h3] at HBA HQ
   clear h3
   go_wp2_with fail
   refine HBA.out.mono ?_
   rintro e w3 ⟨rfl, hb⟩
   replace HB := zaa.mk (HB.out.trans (hb.mono HB.out.size))
   clear hb HBA
   go_wp2_with fail
   go_ret
   exact ⟨by rw [HQ.out]; rfl, HB.out⟩
theorem zc3 (A0 : Option Addr) (c0 : Nat) (t : List (S43)) (s : ByteArray) (p : Nat) (w : World) (hp : w.heap[p]? = some (.cells #[.slice A0 t.length c0] 98 (0, 0))) (hr0 : Kd.C k43 w A0 t.length t) (hlt : t.length < 1000000) :
  Calls Tryd.prog 53 #[.string s, .pointer (some ⟨p, 0, none⟩)] w fun e w' => e = .returned (.bool (!zbW t s)) ∧ Below w.heap.size w w' := by
 have hu := Tryd.underlying98
 have HT := zaa.mk (zeR A0 c0 t s w hr0 hlt)
 have p0 := zah hp 0
 simp only [ga] at p0
 obtain ⟨r, hr⟩ : ∃ r, r = zbW t s := ⟨_, rfl⟩
 rw [← hr] at HT ⊢
 clear hr hr0
 go_enter Tryd.func53, Tryd.ntmps53
 go_wp2_with fail
 refine HT.out.mono ?_
 rintro e w2 ⟨rfl, hb⟩
 have HB := zaa.mk hb
 clear hb HT
 go_wp2_with fail
 go_ret
 exact ⟨rfl, HB.out⟩
theorem zet (A1 : Option Addr) (c1 : Nat) (l0 : List ByteArray) (hl : l0.length < 4398046511104) (A0 : Option Addr) (c0 : Nat) (t : List (S43)) (p : Nat) (w : World) (hp : w.heap[p]? = some (.cells #[.slice A0 t.length c0] 98 (0, 0))) (hr0 : Kd.C k43 w A0 t.length t) (hlt : t.length < 1000000) (hr1 : Kd.C Kd.string w A1 l0.length l0) :
  Calls Tryd.prog 73 #[.slice A1 l0.length c1, .func (.func 53) #[] #[.pointer (some ⟨p, 0, none⟩)]] w fun e w' => e = .returned (.int .i64 (idxP (fun s => !zbW t s) l0 0)) ∧ Below w.heap.size w w' := by
 have HR1 := zaa.mk hr1
 have HR0 := zaa.mk hr0
 have HP := zaa.mk hp
 clear hr0 hp
 obtain ⟨r, hr⟩ : ∃ r, r = idxP (fun s => !zbW t s) l0 0 := ⟨_, rfl⟩
 rw [← hr]
 have HH := zaa.mk hr.symm
 clear hr1 hr
 go_enter Tryd.func73, Tryd.ntmps73
 go_wp2
 go_loopw [8] (fun v8 wr => ∃ i : Nat, i ≤ l0.length ∧ v8 = .int .i64 i ∧ zaa (idxP (fun s => !zbW t s) (l0.drop i) i = r ∧ Below w.heap.size w wr)) (fun v8 _ => l0.length - (intOf v8).toNat)
 case atStart => exact ⟨0, Nat.zero_le _, rfl, ⟨HH.out, Below.refl _ _⟩⟩
 case round =>
  obtain ⟨i, hi, rfl, ⟨hI, hB⟩⟩ := hrel
  have HB := zaa.mk hB
  by_cases hil : i < l0.length
  ·
   obtain ⟨ad, hA, x0⟩ := Kd.zdG (Kd.zay HR1.out hB) (i : Int) o9 o9
   rw [Int.toNat_natCast] at x0
   have HA := zha (fun s => !zbW t s) ByteArray.empty l0 i hil
   rw [hI] at HA
   obtain ⟨x, hx⟩ : ∃ x, x = l0.getD i ByteArray.empty := ⟨_, rfl⟩
   have hx2 : rdOf ByteArray.empty l0 (i : Int) = x := by rw [hx]; unfold rdOf; rw [Int.toNat_natCast]
   rw [← hx] at HA
   rw [hx2] at x0
   clear hx hx2 hI hB
   subst hA
   by_cases he : (fun s => !zbW t s) x = true
   ·
    rw [if_pos he] at HA
    have HQ := zaa.mk he
    subst HA
    clear he
    go_wp2_with fail
    refine (zc3 A0 c0 t x p wr ((HB.out.block p (zam HP.out)).trans HP.out) (Kd.zay HR0.out HB.out) hlt).mono ?_
    rintro e w2 ⟨rfl, hb⟩
    rw [show (!zbW t x) = true from HQ.out]
    have HB2 := zaa.mk (HB.out.trans (hb.mono HB.out.size))
    clear hb
    go_wp2_with fail
    go_ret
    exact ⟨rfl, HB2.out⟩
   ·
    rw [if_neg he] at HA
    have HQ := zaa.mk (show (fun s => !zbW t s) x = false by simpa using he)
    have HA2 := zaa.mk HA.symm
    clear he HA
    go_wp2_with fail
    refine (zc3 A0 c0 t x p wr ((HB.out.block p (zam HP.out)).trans HP.out) (Kd.zay HR0.out HB.out) hlt).mono ?_
    rintro e w2 ⟨rfl, hb⟩
    rw [show (!zbW t x) = false from HQ.out]
    have HB2 := zaa.mk (HB.out.trans (hb.mono HB.out.size))
    clear hb
    go_wp2_with fail
    go_roundw
    case rel => exact ⟨i + 1, by omega, by go_num, ⟨HA2.out, HB2.out⟩⟩
    case measure => simp [intOf]; omega
  ·
   have hi2 : i = l0.length := by omega
   rw [hi2, List.drop_length] at hI
   have HA2 := zaa.mk hI
   clear hI hi2 hB
   go_wp2_with fail
   go_ret
   exact ⟨by rw [← HA2.out]; rfl, HB.out⟩
theorem zfF (A1 : Option Addr) (c1 : Nat) (l0 : List ByteArray) (hl : l0.length < 4398046511104) (A0 : Option Addr) (c0 : Nat) (t : List (S43)) (p : Nat) (w : World) (hp : w.heap[p]? = some (.cells #[.slice A0 t.length c0] 98 (0, 0))) (hr0 : Kd.C k43 w A0 t.length t) (hlt : t.length < 1000000) (hr1 : Kd.C Kd.string w A1 l0.length l0) :
  Calls Tryd.prog 52 #[.slice A1 l0.length c1, .func (.func 53) #[] #[.pointer (some ⟨p, 0, none⟩)]] w fun e w' => e = .returned (.bool (l0.any (fun s => !zbW t s))) ∧ Below w.heap.size w w' := by
 have HI := zaa.mk (zet A1 c1 l0 hl A0 c0 t p w hp hr0 hlt hr1)
 rw [← ze9 (fun s => !zbW t s) l0 0]
 obtain ⟨r, hr⟩ : ∃ r, r = idxP (fun s => !zbW t s) l0 0 := ⟨_, rfl⟩
 rw [← hr] at HI ⊢
 clear hr1 hr
 go_enter Tryd.func52, Tryd.ntmps52
 go_wp2_with fail
 refine HI.out.mono ?_
 rintro e w1 ⟨rfl, hb⟩
 have HB := zaa.mk hb
 clear HI hb
 go_wp2_with fail
 go_ret
 exact ⟨rfl, HB.out⟩
theorem zfP (A0 : Option Addr) (c0 : Nat) (t : List (S43)) (A1 : Option Addr) (c1 : Nat) (l : List ByteArray) (ca cb : Int) (w : World) (hr0 : Kd.C k43 w A0 t.length t) (hlt : t.length < 1000000) (hr1 : Kd.C Kd.string w A1 l.length l) (hl : l.length < 4398046511104)
  (HCK : ∀ w', Below w.heap.size w w' → Calls Tryd.prog 12 #[.slice A0 t.length c0] w' fun e w'' => e = .returned (.agg #[.int .i64 ca, .int .i64 cb]) ∧ Below w'.heap.size w' w'') :
  Calls Tryd.prog 32 #[.slice A0 t.length c0, .slice A1 l.length c1] w fun e w' => e = .returned (.bool ((ca == 0) && (cb == 0) && !(l.any fun s => !zbW t s))) ∧ Below w.heap.size w w' := by
 have hu := Tryd.underlying98
 have huF := Tryd.underlying30
 have hmf : ∀ (fn : Fn) (first cap : Array Value) (w : World), (Instr.makeFunc fn first cap).run Tryd.prog w = .ok (.func fn first cap) w := fun _ _ _ _ => rfl
 obtain ⟨w1, hw1⟩ : ∃ w1, w1 = w.alloc (.cells #[.slice A0 t.length c0] 98) := ⟨_, rfl⟩
 have hb1 : Below w.heap.size w w1 := by rw [hw1]; exact (Below.refl _ _).alloc (Nat.le_refl _) _
 have hp1 : w1.heap[w.heap.size]? = some (.cells #[.slice A0 t.length c0] 98 (0, 0)) := by rw [hw1]; exact at_new w _ rfl
 have HF := zaa.mk (HCK w1 hb1)
 have HB := zaa.mk hb1
 have HP := zaa.mk hp1
 have HR0 := zaa.mk hr0
 have HR1 := zaa.mk hr1
 have HLT := zaa.mk hlt
 have HLL := zaa.mk hl
 clear hr0 hr1 hb1 hp1 HCK hlt hl
 obtain ⟨q2, hq2⟩ : ∃ q2, q2 = (l.any fun s => !zbW t s) := ⟨_, rfl⟩
 rw [← hq2]
 obtain ⟨r, hr⟩ : ∃ r, r = ((ca == 0) && (cb == 0) && !q2) := ⟨_, rfl⟩
 rw [← hr]
 have HRR := zaa.mk hr
 have HQ2 := zaa.mk hq2
 clear hq2 hr
 go_enter Tryd.func32, Tryd.ntmps32
 go_wp2_with fail
 rw [← hw1]
 clear hw1
 refine HF.out.mono ?_
 rintro e w2 ⟨rfl, hb⟩
 replace HB := zaa.mk (HB.out.trans (hb.mono HB.out.size))
 replace HP := zaa.mk ((hb.block _ (zam HP.out)).trans HP.out)
 have HK := zaa.mk (zfF A1 c1 l HLL.out A0 c0 t w.heap.size w2 HP.out (Kd.zay HR0.out HB.out) HLT.out (Kd.zay HR1.out HB.out))
 clear hb HF HR0 HR1
 rw [← HQ2.out] at HK
 by_cases h1 : ca = 0
 ·
  by_cases h2 : cb = 0
  ·
   subst h1 h2
   have HR2 := zaa.mk (show r = !q2 from by rw [HRR.out]; simp)
   go_wp2_with fail
   refine HK.out.mono ?_
   rintro e w3 ⟨rfl, hb⟩
   replace HB := zaa.mk (HB.out.trans (hb.mono HB.out.size))
   clear hb HK
   go_wp2_with fail
   go_ret
   exact ⟨by rw [HR2.out]; rfl, HB.out⟩
  ·
   subst h1
   have HR2 := zaa.mk (show r = false from by rw [HRR.out]; simp [h2])
   go_wp2_with fail
   go_ret
   exact ⟨by rw [HR2.out]; rfl, HB.out⟩
 ·
  have HR2 := zaa.mk (show r = false from by rw [HRR.out]; simp [h1])
  go_wp2_with fail
  go_ret
  exact ⟨by rw [HR2.out]; rfl, HB.out⟩
end Go.Proofs.YtfhgmebhdchegaaDoorTab
end

section
namespace Go.Proofs.YtfhgmebhdchegaaDoorTab
open Go.RowKit Go.Proofs.YtfhgmebhdchegaaDoor.PAll Go.Proofs.YtfhgmebhdchegaaDoorW.zai Go.Proofs.YtfhgmebhdchegaaDoorW.zas Go.Proofs.YtfhgmebhdchegaaDoorRF Go.Proofs.YtfhgmebhdchegaaDoorRG
theorem zdk (A0 : Option Addr) (c0 : Nat) (t : List (S43)) (s u : ByteArray) (w : World) (hr0 : Kd.C k43 w A0 t.length t) (hlt : t.length < 1000000) :
  Calls Tryd.prog 51 #[.slice A0 t.length c0, .string s, .string u] w fun e w' => e = .returned (.bool (belB t s u)) ∧ Below w.heap.size w w' := by
 have HF := zaa.mk (zcy A0 c0 t s w hr0 o9)
 have HL := zaa.mk (zgd t s hlt)
 unfold belB
 obtain ⟨L, hL⟩ : ∃ L, L = supL t s := ⟨_, rfl⟩
 rw [← hL] at HF HL ⊢
 clear hL hr0
 obtain ⟨b, h⟩ : ∃ b, (s.toList == u.toList) = b := ⟨_, rfl⟩
 rw [h]
 cases b with
 | true =>
  go_enter Tryd.func51, Tryd.ntmps51
  go_wp2_with fail
  go_ret
  exact ⟨rfl, Below.refl _ _⟩
 | false =>
  go_enter Tryd.func51, Tryd.ntmps51
  go_wp2_with fail
  refine HF.out.mono ?_
  rintro e w2 ⟨v, rfl, hR, hb⟩
  obtain ⟨A2, c2, rfl, _, hC⟩ := Kd.zbB hR
  have HB := zaa.mk hb
  have HK := zaa.mk (zbk A2 c2 L u w2 hC HL.out)
  clear hb hC hR HF
  go_wp2_with fail
  refine HK.out.mono ?_
  rintro e w3 ⟨rfl, rfl⟩
  clear HK
  go_wp2_with fail
  go_ret
  exact ⟨rfl, HB.out⟩
theorem zgm (t : List (S43)) (s : ByteArray) (hl : t.length ≤ 40) : ∃ p : Nat, at1 t s = (p : Int) ∧ (at1 t s).toNat = p ∧ p < 40 := by
 unfold at1
 by_cases h : idxC s t 0 < 0
 ·
  rw [if_pos h]; exact ⟨0, rfl, rfl, by omega⟩
 ·
  rw [if_neg h]
  have := (zcp s t h).1
  exact ⟨(idxC s t 0).toNat, by omega, rfl, by omega⟩
theorem Mat.cell {b : Nat} {S : List (Nat × Nat)} {W : World} {cs : Array Value} (h : Mat b S W cs) {i k : Nat} (hi : i < 40) (hk : k < 40) : W.cell? ⟨b, i * 40 + k, none⟩ = some (.bool (decide ((i, k) ∉ S))) := by
 rw [zah h.lies]; exact h.at_ i k hi hk
theorem Mat.below {b n : Nat} {S : List (Nat × Nat)} {W W' : World} {cs : Array Value} (h : Mat b S W cs) (hb : Below n W W') (hn : b < n) : Mat b S W' cs := ⟨(hb.block b hn).trans h.lies, h.size, h.at_⟩
theorem zdV (A0 : Option Addr) (c0 : Nat) (t : List (S43)) (b : Nat) (S : List (Nat × Nat)) (cs : Array Value) (x y : ByteArray) (w : World) (hr0 : Kd.C k43 w A0 t.length t) (hlt : t.length ≤ 40) (hM : Mat b S w cs) :
  Calls Tryd.prog 31 #[.pointer (some ⟨b, 0, none⟩), .slice A0 t.length c0, .agg #[.string x, .string y]] w fun e w' => e = .returned (.bool (goesB t S x y)) ∧ Below w.heap.size w w' := by
 have hu := Tryd.underlying69
 have hu2 := Tryd.underlying96
 have hu3 := Tryd.underlying94
 obtain ⟨w1, hw1⟩ : ∃ w1, w1 = w.alloc (.cells #[.string x, .string y] 69) := ⟨_, rfl⟩
 have hb1 : Below w.heap.size w w1 := by rw [hw1]; exact (Below.refl _ _).alloc (Nat.le_refl _) _
 have HC := zaa.mk (show ∀ w', Below w.heap.size w w' → Kd.C k43 w' A0 t.length t from fun w' h => Kd.zay hr0 h)
 have HM := zaa.mk (show ∀ w', Below w.heap.size w w' → Mat b S w' cs from fun w' h => hM.below h (zam hM.lies))
 have hbx : w1.heap[w.heap.size]? = some (.cells #[.string x, .string y] 69 (0, 0)) := by rw [hw1]; exact at_new _ _ rfl
 have HX := zaa.mk (show ∀ w', Below w1.heap.size w1 w' → w'.heap[w.heap.size]? = some (.cells #[.string x, .string y] 69 (0, 0)) from fun w' h => (h.block _ (zam hbx)).trans hbx)
 have HB := zaa.mk hb1
 have hx0 := zah hbx 0
 have hx1 := zah hbx 1
 simp only [List.getElem?_toArray, List.getElem?_cons_zero, List.getElem?_cons_succ] at hx0 hx1
 obtain ⟨r, hr⟩ : ∃ r, r = goesB t S x y := ⟨_, rfl⟩
 rw [← hr]
 unfold goesB at hr
 have HQ := zaa.mk hr
 clear hr hr0 hM hbx hb1
 obtain ⟨b1, h1⟩ : ∃ b1, (x.toList == [63]) = b1 := ⟨_, rfl⟩
 obtain ⟨b2, h2⟩ : ∃ b2, (y.toList == [63]) = b2 := ⟨_, rfl⟩
 obtain ⟨b3, h3⟩ : ∃ b3, belB t x y = b3 := ⟨_, rfl⟩
 obtain ⟨b4, h4⟩ : ∃ b4, is1 t x = b4 := ⟨_, rfl⟩
 obtain ⟨b5, h5⟩ : ∃ b5, is1 t y = b5 := ⟨_, rfl⟩
 rw [h1, h2, h3, h4, h5] at HQ
 have HBE := zaa.mk (zdk A0 c0 t x y w1 (HC.out w1 HB.out) o9)
 have HFX := zaa.mk (show ∀ w', Below w.heap.size w w' → _ from fun w' h => zbL A0 c0 t x w' (HC.out w' h) o9)
 have HFY := zaa.mk (show ∀ w', Below w.heap.size w w' → _ from fun w' h => zbL A0 c0 t y w' (HC.out w' h) o9)
 obtain ⟨p, hp1, hp2, hp3⟩ := zgm t x hlt
 obtain ⟨q, hq1, hq2, hq3⟩ := zgm t y hlt
 rw [h3] at HBE
 rw [hp1, h4] at HFX
 rw [hq1, h5] at HFY
 rw [hp2, hq2] at HQ
 clear hp1 hp2 hq1 hq2 h3 h4 h5
 go_enter Tryd.func31, Tryd.ntmps31
 cases b1 with
 | true =>
  go_wp2_with fail
  rw [← hw1]
  go_ret
  exact ⟨by rw [HQ.out]; rfl, HB.out⟩
 | false =>
  cases b2 with
  | true =>
   go_wp2_with fail
   rw [← hw1]
   go_ret
   exact ⟨by rw [HQ.out]; rfl, HB.out⟩
  | false =>
   go_wp2_with fail
   rw [← hw1]
   clear hw1
   refine HBE.out.mono ?_
   rintro e w2 ⟨rfl, hb⟩
   replace HB := zaa.mk (HB.out.trans (hb.mono HB.out.size))
   have hbx := HX.out w2 hb
   have HBX := zaa.mk hb
   clear hb HBE hx0 hx1 h1 h2
   have hx0 := zah hbx 0
   have hx1 := zah hbx 1
   simp only [List.getElem?_toArray, List.getElem?_cons_zero, List.getElem?_cons_succ] at hx0 hx1
   clear hbx
   cases b3 with
   | true =>
    go_wp2_with fail
    go_ret
    exact ⟨by rw [HQ.out]; rfl, HB.out⟩
   | false =>
    have HF1 := zaa.mk (HFX.out w2 HB.out)
    clear HFX
    go_wp2_with fail
    refine HF1.out.mono ?_
    rintro e w3 ⟨rfl, hb⟩
    replace HB := zaa.mk (HB.out.trans (hb.mono HB.out.size))
    have hbx := HX.out w3 (HBX.out.trans (hb.mono HBX.out.size))
    have hx0 := zah hbx 0
    have hx1 := zah hbx 1
    simp only [List.getElem?_toArray, List.getElem?_cons_zero, List.getElem?_cons_succ] at hx0 hx1
    have HF1 := zaa.mk (HFY.out w3 HB.out)
    clear HFY hbx hb
    go_wp2_with fail
    refine HF1.out.mono ?_
    rintro e w4 ⟨rfl, hb⟩
    replace HB := zaa.mk (HB.out.trans (hb.mono HB.out.size))
    have hc := (HM.out w4 HB.out).cell hp3 hq3
    clear hb HF1 hx0 hx1
    have p0 : (0 : Int) ≤ (p : Int) := by omega
    have q0 : (0 : Int) ≤ (q : Int) := by omega
    have p1 : (p : Int) < 40 := by omega
    have q1 : (q : Int) < 40 := by omega
    obtain ⟨d, hd⟩ : ∃ d, d = decide ((p, q) ∉ S) := ⟨_, rfl⟩
    rw [← hd] at hc HQ
    clear hd
    cases b4 with
    | false =>
     go_wp2_with fail
     go_ret
     exact ⟨by rw [HQ.out]; rfl, HB.out⟩
    | true =>
     cases b5 with
     | false =>
      go_wp2_with fail
      go_ret
      exact ⟨by rw [HQ.out]; rfl, HB.out⟩
     | true =>
      go_wp2_with fail
      go_ret
      exact ⟨by rw [HQ.out]; rfl, HB.out⟩
end Go.Proofs.YtfhgmebhdchegaaDoorTab
end

section
namespace Go.Proofs.YtfhgmebhdchegaaDoorTab
open Go.RowKit Go.Proofs.YtfhgmebhdchegaaDoor.PAll Go.Proofs.YtfhgmebhdchegaaDoorW.zai Go.Proofs.YtfhgmebhdchegaaDoorW.zas Go.Proofs.YtfhgmebhdchegaaDoorRF Go.Proofs.YtfhgmebhdchegaaDoorRG
attribute [local go_sem] Oper.semAt_some
structure St {α : Type} (J : List α → (Nat → Prop) → World → Prop) (n₀ : Nat) (w : World) (pre : List α) (O : Nat → Prop) (W : World) : Prop where
 j : J pre O W
 lt : ∀ k, O k → k < W.heap.size
 bl : Below n₀ w W
structure Kp (W1 : World) (O1 O : Nat → Prop) (W : World) : Prop where
 sub : ∀ k, O1 k → O k
 eq : ∀ k, O1 k → W.heap[k]? = W1.heap[k]?
def gr (O : Nat → Prop) (W W' : World) : Nat → Prop := fun k => O k ∨ (W.heap.size ≤ k ∧ k < W'.heap.size)
section
variable {α : Type} {J : List α → (Nat → Prop) → World → Prop} {n₀ : Nat} {w : World} {pre : List α} {O O1 : Nat → Prop} {W W' W1 : World}
theorem St.grow (h : St J n₀ w pre O W) (hJ : Stable J) (hn : n₀ ≤ w.heap.size) (hb : Below W.heap.size W W') : St J n₀ w pre (gr O W W') W' :=
 ⟨hJ _ O _ _ _ h.j (Mv.zbN hb O) (fun _ h => .inl h) (fun _ h => h.imp id (fun h => h.1)), fun k hk => hk.elim (fun h' => Nat.lt_of_lt_of_le (h.lt k h') hb.size) (fun h' => h'.2), h.bl.trans (hb.mono (Nat.le_trans hn h.bl.size))⟩
theorem St.yield (h : St J n₀ w pre O W) (hn : n₀ ≤ w.heap.size) {x : α} (hJ3 : J (pre ++ [x]) O W') (hm : Mv (fun k => ¬ O k ∧ ¬ k < n₀) W W') : St J n₀ w (pre ++ [x]) O W' :=
 ⟨hJ3, fun k hk => Nat.lt_of_lt_of_le (h.lt k hk) hm.size, h.bl.trans (hm.below (Nat.le_trans hn h.bl.size) (fun k h => Nat.not_lt.1 h.2))⟩
theorem Kp.self (W : World) (O : Nat → Prop) : Kp W O O W := ⟨fun _ h => h, fun _ _ => rfl⟩
theorem Kp.grow (h : Kp W1 O1 O W) (hl : ∀ k, O k → k < W.heap.size) (hb : Below W.heap.size W W') : Kp W1 O1 (gr O W W') W' :=
 ⟨fun k hk => .inl (h.sub k hk), fun k hk => (hb.block k (hl k (h.sub k hk))).trans (h.eq k hk)⟩
theorem Kp.yield {Rd : Nat → Prop} (h : Kp W1 O1 O W) (hl : ∀ k, O k → k < W.heap.size) (hm : Mv (fun k => ¬ O k ∧ Rd k) W W') : Kp W1 O1 O W' :=
 ⟨h.sub, fun k hk => (hm.block k (hl k (h.sub k hk)) (fun e => e.1 (h.sub k hk))).trans (h.eq k hk)⟩
theorem Kp.trans {O2 : Nat → Prop} {W2 : World} (h : Kp W1 O1 O2 W2) (k : Kp W2 O2 O W) : Kp W1 O1 O W := ⟨fun x hx => k.sub x (h.sub x hx), fun x hx => (k.eq x (h.sub x hx)).trans (h.eq x hx)⟩
theorem Kp.at (h : Kp W1 O1 O W) {k : Nat} {o : Obj} (hk : W1.heap[k]? = some o) (ho : O1 k) : W.heap[k]? = some o := (h.eq k ho).trans hk
end
theorem zfy (A0 : Option Addr) (n0 c0 : Nat) (s u : ByteArray) (w : World) :
  Calls Tryd.prog 72 #[.slice A0 n0 c0, .string s, .string u] w fun e w' => e = .returned (.func (.func 84) #[] #[.pointer (some ⟨w.heap.size, 0, none⟩), .pointer (some ⟨w.heap.size + 1 + 1, 0, none⟩), .pointer (some ⟨w.heap.size + 1, 0, none⟩)]) ∧
   w' = ((w.alloc (.cells #[.slice A0 n0 c0] 25)).alloc (.cells #[.string s] 9)).alloc (.cells #[.string u] 9) := by
 have hmf : ∀ (fn : Fn) (first cap : Array Value) (w : World), (Instr.makeFunc fn first cap).run Tryd.prog w = .ok (.func fn first cap) w := fun _ _ _ _ => rfl
 go_enter Tryd.func72, Tryd.ntmps72
 go_wp2_with fail
 go_ret
 exact ⟨rfl, rfl⟩
def encW (x : Wy) : Array Value := #[.string x.nm, .agg #[.string x.a, .string x.b]]
def wfit (t : List (S43)) (s u : ByteArray) : Bool :=
 zgY t s u && decide ((zbH t u).length < 4398046511104) && decide ((zbH t s).length < 4398046511104) && decide (((lineL t u).reverse.flatMap fun p => (clsAt t p).f3).length < 2199023255552) && decide ((zcZ t u).length < 4398046511104) && (zcZ t u).all fun m => decide (m.f1.length < 4398046511104)
theorem zeO {α β : Type} (g : α → List β) (F : List α) (i : Nat) (h : i < F.length) : (F.take (i + 1)).flatMap g = (F.take i).flatMap g ++ g F[i] := by
 rw [List.take_succ_eq_append_getElem h, List.flatMap_append]; simp
theorem zgS {α β : Type} (g : α → List β) (F : List α) (i : Nat) : (F.take i).flatMap g <+: F.flatMap g := by
 have h := List.take_append_drop i F
 exact ⟨(F.drop i).flatMap g, by rw [← List.flatMap_append, h]⟩
theorem rdVn (l : List (S48)) (i : Nat) (h : i < l.length) : za1 l (i : Int) = l[i] := by
 unfold za1
 rw [Int.toNat_natCast, List.getD_eq_getElem?_getD, List.getElem?_eq_getElem h]; rfl
theorem rdSn (l : List (S51)) (i : Nat) (h : i < l.length) : zaQ l (i : Int) = l[i] := by
 unfold zaQ
 rw [Int.toNat_natCast, List.getD_eq_getElem?_getD, List.getElem?_eq_getElem h]; rfl
theorem zg3 {W : World} {base : Nat} {ok : Nat → Prop} {ad : Addr} {n c : Nat} {G : List (S51)} (h : Kd.R k51 51 W base ok (.slice (some ad) n c) G) (i : Int) (h0 : 0 ≤ i) (h1 : i < n) :
  ∃ v1, W.cell? (ad.add (i.toNat * 3)) = some (.string (zaQ G i).f0) ∧ W.cell? ⟨(ad.add (i.toNat * 3)).block, (ad.add (i.toNat * 3)).off + 1, none⟩ = some v1 ∧ W.cell? ⟨(ad.add (i.toNat * 3)).block, (ad.add (i.toNat * 3)).off + 2, none⟩ = some (.string (zaQ G i).f2) ∧
   Kd.R k48 48 W base ok v1 (zaQ G i).f1 := by
 obtain ⟨cs, hcl, hM, hcc⟩ := Kd.zgW h z51 i h0 h1
 obtain ⟨v1, rfl, hR⟩ := zeu hM
 have hc : ∀ j u, [Value.string (G.getD i.toNat z51).f0, v1, Value.string (G.getD i.toNat z51).f2][j]? = some u → W.cell? (ad.add (i.toNat * 3 + j)) = some u := hcc
 exact ⟨v1, hc 0 _ rfl, by rw [← zbO _ _ 1 o9]; exact hc 1 _ rfl, by rw [← zbO _ _ 2 o9]; exact hc 2 _ rfl, Kd.zaz hR (fun _ hk => hk.1)⟩
theorem zf5 (nm : ByteArray) (ps qs : List (S48)) (k : Nat) (h1 : k < ps.length) (h2 : k < qs.length) : (pwL nm ps qs).take (k + 1) = (pwL nm ps qs).take k ++ [⟨nm, ps[k].f1, qs[k].f1⟩] := by
 unfold pwL
 rw [List.take_succ_eq_append_getElem (by simp; omega), List.getElem_zipWith]
theorem zht (nm : ByteArray) (ps qs : List (S48)) (h : ps.length ≤ qs.length) : (pwL nm ps qs).take ps.length = pwL nm ps qs := by
 unfold pwL
 exact List.take_of_length_le (by simp; omega)
theorem yd {A B C D : Prop} {e : Ending} (h : (e = .returned (.bool true) ∧ A ∧ B) ∨ (e = .returned (.bool false) ∧ C ∧ D)) : ∃ b : Bool, e = .returned (.bool b) ∧ (b = true → A ∧ B) ∧ (b = false → C ∧ D) := by
 rcases h with ⟨h1, h2⟩ | ⟨h1, h2⟩
 ·
  exact ⟨true, h1, fun _ => h2, fun h => absurd h d9⟩
 ·
  exact ⟨false, h1, fun h => absurd h d9, fun _ => h2⟩
theorem zfB (n : Nat) (hn : 2 ≤ n) (A0 : Option Addr) (c0 : Nat) (t : List (S43)) (s u : ByteArray) (Bt Bu Bs n₀ : Nat) (w : World) (hn₀ : n₀ ≤ w.heap.size)
  (hC : ∀ w', Below n₀ w w' → Kd.C k43 w' A0 t.length t) (hsm : Small t) (hfit : wfit t s u = true)
  (hBt : w.heap[Bt]? = some (.cells #[.slice A0 t.length c0] 25 (0, 0))) (hBu : w.heap[Bu]? = some (.cells #[.string u] 9 (0, 0))) (hBs : w.heap[Bs]? = some (.cells #[.string s] 9 (0, 0))) :
  Iter Fence.wide n Tryd.prog 84 #[.pointer (some ⟨Bt, 0, none⟩), .pointer (some ⟨Bu, 0, none⟩), .pointer (some ⟨Bs, 0, none⟩)] encW (fun l => l <+: waysL t s u) (fun l => l = waysL t s u) (fun k => k = Bt ∨ k = Bu ∨ k = Bs) (fun k => k < n₀) w := by
 intro l J Jx O W hJ hJx hY hmv hO hOl h0
 have hn1 : 1 ≤ n - 1 := by omega
 unfold wfit at hfit
 simp only [Bool.and_eq_true, decide_eq_true_eq] at hfit
 obtain ⟨⟨⟨⟨⟨hwo, hfu⟩, hfs⟩, hml⟩, hmu⟩, hpu⟩ := hfit
 have hB1 := hmv.at hBt (fun h => h)
 have hB2 := hmv.at hBu (fun h => h)
 have hB3 := hmv.at hBs (fun h => h)
 have hu48 := Tryd.underlying48
 have hu51 := Tryd.underlying51
 have hu69 := Tryd.underlying69
 have hst0 : St J n₀ w [] O W := ⟨h0, hOl, hmv.below hn₀ (fun k h => h.elim)⟩
 have hlt := hsm.all
 refine callsIn_of_wp Tryd.func84 rfl trivial ?_ rfl
 simp only [Tryd.ntmps84, List.size_toArray, List.length_cons, List.length_nil, Nat.reduceAdd, Nat.reduceSub, Array.replicate_succ, Array.replicate_zero, List.push_toArray, List.append_toArray, List.nil_append, List.cons_append]
 have hc1 := zah hB1 0
 have hc2 := zah hB2 0
 simp only [List.getElem?_toArray, List.getElem?_cons_zero] at hc1 hc2
 have HF := zaa.mk ((callsIn_wide (n := n - 1)).2 (zcC A0 c0 t u W (hC _ hst0.bl) hlt hfu))
 have HY := zaa.mk hY
 have HC := zaa.mk hC
 have HST0 := zaa.mk hst0
 have HMU := zaa.mk hmu
 have HPU := zaa.mk hpu
 have HWO := zaa.mk hwo
 have HML := zaa.mk hml
 have HFS := zaa.mk hfs
 have HBO := zaa.mk (And.intro hB1 (And.intro hB2 hB3))
 have HOO := zaa.mk hO
 obtain ⟨F, hF⟩ : ∃ F, F = zbH t u := ⟨_, rfl⟩
 have HFE := zaa.mk hF
 have hFl : F.length < 4398046511104 := by rw [hF]; exact hfu
 rw [← hF] at HF
 clear hY hC hst0 hmu hpu hwo hml hB1 hB2 hB3 hBt hBu hBs hmv hO hOl h0 hfs hfu hF
 gi_wp2
 refine ⟨trivial, fun _ => by omega, HF.out.mono ?_⟩
 rintro e w1 ⟨v, rfl, hR, hb1⟩
 obtain ⟨A1, c1, hv⟩ := Kd.zaR hR
 subst hv
 obtain ⟨O1, hO1⟩ : ∃ O1, O1 = gr O W w1 := ⟨_, rfl⟩
 have hst1 := HST0.out.grow hJ hn₀ hb1
 rw [← hO1] at hst1
 have HROW := zaa.mk (show ∀ W', (∀ k, O1 k → W'.heap[k]? = w1.heap[k]?) → Kd.C k48 W' A1 F.length F from fun W' h => by
  obtain ⟨A', c', e', _, hC'⟩ := Kd.zbB (Kd.zbM (w1 := W') (Kd.zaz (Kd.za0 hR) (ok' := O1) (fun k hk => by rw [hO1]; exact .inr ⟨hk.2.1, hk.2.2.1⟩)) (fun k hk _ => h k hk))
  cases e'; exact hC')
 have hoo : ∀ k, k = Bt ∨ k = Bu ∨ k = Bs → O1 k := fun k hk => by rw [hO1]; exact .inl (HOO.out k hk)
 have HB1 := zaa.mk (show w1.heap[Bt]? = some (.cells #[.slice A0 t.length c0] 25 (0, 0)) ∧ O1 Bt from ⟨(hb1.block _ (zam HBO.out.1)).trans HBO.out.1, hoo _ (.inl rfl)⟩)
 have HB2 := zaa.mk (show w1.heap[Bu]? = some (.cells #[.string u] 9 (0, 0)) ∧ O1 Bu from ⟨(hb1.block _ (zam HBO.out.2.1)).trans HBO.out.2.1, hoo _ (.inr (.inl rfl))⟩)
 have HB3 := zaa.mk (show w1.heap[Bs]? = some (.cells #[.string s] 9 (0, 0)) ∧ O1 Bs from ⟨(hb1.block _ (zam HBO.out.2.2)).trans HBO.out.2.2, hoo _ (.inr (.inr rfl))⟩)
 have HST1 := zaa.mk hst1
 clear hst1 hR hb1 HF hoo hO1 HBO HST0 HOO hc1 hc2
 gi_wp2
 gi_loopw [20] (fun v20 wr => ∃ (i : Nat) (O' : Nat → Prop), i ≤ F.length ∧ v20 = .int .i64 i ∧ zaa (St J n₀ w ((F.take i).flatMap (fwL t s)) O' wr ∧ Kp w1 O1 O' wr)) (fun v20 _ => F.length - (intOf v20).toNat)
 case atStart => exact ⟨0, O1, Nat.zero_le _, rfl, ⟨HST1.out, Kp.self _ _⟩⟩
 case round =>
  obtain ⟨i, O', hi, rfl, ⟨hst, hkp⟩⟩ := hrel
  clear HST1
  have HST := zaa.mk hst
  have HKP := zaa.mk hkp
  by_cases hlt2 : i < F.length
  ·
   obtain ⟨ad, hA, x0, x1⟩ := zcM (HROW.out wr hkp.eq) (i : Int) o9 o9
   rw [rdVn F i hlt2] at x0 x1
   simp only [Int.toNat_natCast] at x0 x1
   obtain ⟨f, hf⟩ : ∃ f, f = F[i] := ⟨_, rfl⟩
   rw [← hf] at x0 x1
   have HFI := zaa.mk hf
   subst hA
   have b1 := hkp.at HB1.out.1 HB1.out.2
   have b3 := hkp.at HB3.out.1 HB3.out.2
   obtain ⟨w2, hw2⟩ : ∃ w2, w2 = wr.alloc (.cells #[.string f.f0, .string f.f1] 48) := ⟨_, rfl⟩
   have hc1 := zah (zaI b1 (.cells #[.string f.f0, .string f.f1] 48)) 0
   have hc3 := zah (zaI b3 (.cells #[.string f.f0, .string f.f1] 48)) 0
   simp only [List.getElem?_toArray, List.getElem?_cons_zero] at hc1 hc3
   have hbx2 : w2.heap[wr.heap.size]? = some (.cells #[.string f.f0, .string f.f1] 48 (0, 0)) := by rw [hw2]; exact at_new _ _ rfl
   have hb2 : Below wr.heap.size wr w2 := by rw [hw2]; exact (Below.refl _ _).alloc (Nat.le_refl _) _
   have hbl2 : Below n₀ w w2 := hst.bl.trans (hb2.mono (Nat.le_trans hn₀ hst.bl.size))
   have HFC := zaa.mk ((callsIn_wide (n := n - 1)).2 (zdQ A0 c0 t s f.f0 w2 (HC.out _ hbl2) hlt HFS.out))
   have HBX2 := zaa.mk hbx2
   have HB22 := zaa.mk hb2
   obtain ⟨mine, hmine⟩ : ∃ mine, mine = zcl t s f.f0 := ⟨_, rfl⟩
   have HMI := zaa.mk hmine
   rw [← hmine] at HFC
   clear hst hkp b1 b3 hf hbx2 hb2 hbl2 hmine
   gi_wp2
   rw [← hw2]
   clear hw2 hc1 hc3 x0 x1
   refine ⟨trivial, fun _ => by omega, HFC.out.mono ?_⟩
   rintro e w3 ⟨rfl, hb3⟩
   have hb23 := HB22.out.trans (hb3.mono HB22.out.size)
   have hst3 := HST.out.grow hJ hn₀ hb23
   have hkp3 := HKP.out.grow HST.out.lt hb23
   have hbx3 := (hb3.block _ (zam HBX2.out)).trans HBX2.out
   obtain ⟨O2, hO2⟩ : ∃ O2, O2 = gr O' wr w3 := ⟨_, rfl⟩
   rw [← hO2] at hst3 hkp3
   have hob : O2 wr.heap.size := by rw [hO2]; exact .inr ⟨Nat.le_refl _, zam hbx3⟩
   have hpre : (F.take (i + 1)).flatMap (fwL t s) = (F.take i).flatMap (fwL t s) ++ [⟨f.f0, mine, f.f1⟩] ++ [⟨f.f0, f.f1, mine⟩] := by
    rw [zeO _ F i hlt2, ← HFI.out, HMI.out]; simp [fwL]
   have hpw : (F.take (i + 1)).flatMap (fwL t s) <+: waysL t s u := by
    unfold waysL
    rw [← HFE.out]
    exact (zgS _ F (i + 1)).trans (List.prefix_append _ _)
   obtain ⟨fn, tmps, assign, body, hy, hRr⟩ := HY.out _ ⟨f.f0, mine, f.f1⟩ O2 w3 hst3.j (by rw [hpre] at hpw; exact (List.prefix_append _ _).trans hpw) hst3.lt
   simp only [encW] at hy
   have h30 := zah hbx3 0
   have h31 := zah hbx3 1
   simp only [List.getElem?_toArray, List.getElem?_cons_zero, List.getElem?_cons_succ] at h30 h31
   have HST3 := zaa.mk hst3
   have HKP3 := zaa.mk hkp3
   have HBX3 := zaa.mk hbx3
   have HOB := zaa.mk hob
   have HPRE := zaa.mk hpre
   have HPW := zaa.mk hpw
   have HRR := zaa.mk hRr
   clear hst3 hkp3 hbx3 hob hpre hpw hRr hb3 hb23 hO2 HFC
   gi_wp2
   refine ⟨fun _ => by omega, HRR.out.mono ?_⟩
   rintro e W3 (⟨rfl, hJ3, hm3⟩ | ⟨rfl, hJx3, hm3⟩)
   ·
    have hst4 := HST3.out.yield hn₀ hJ3 hm3
    have hkp4 := HKP3.out.yield HST3.out.lt hm3
    have hbx4 := hm3.at HBX3.out (fun e => e.1 HOB.out)
    obtain ⟨fn', tmps', assign', body', hy', hRr'⟩ := HY.out _ ⟨f.f0, f.f1, mine⟩ O2 W3 hst4.j (by rw [← HPRE.out]; exact HPW.out) hst4.lt
    simp only [encW] at hy'
    have h30' := zah hbx4 0
    have h31' := zah hbx4 1
    simp only [List.getElem?_toArray, List.getElem?_cons_zero, List.getElem?_cons_succ] at h30' h31'
    have HST4 := zaa.mk hst4
    have HKP4 := zaa.mk hkp4
    have HRR' := zaa.mk hRr'
    clear hst4 hkp4 hbx4 hRr' hJ3 hm3 hy h30 h31 HRR
    gi_wp2
    refine ⟨fun _ => by omega, HRR'.out.mono ?_⟩
    rintro e W5 (⟨rfl, hJ3, hm3⟩ | ⟨rfl, hJx3, hm3⟩)
    ·
     have hst6 := HST4.out.yield hn₀ hJ3 hm3
     have hkp6 := HKP4.out.yield HST4.out.lt hm3
     rw [← HPRE.out] at hst6
     have HX := zaa.mk (And.intro hst6 hkp6)
     clear hst6 hkp6 hJ3 hm3 hy' h30' h31' HRR'
     gi_wp2
     go_roundw
     case rel => exact ⟨i + 1, O2, by omega, by go_num, HX⟩
     case measure => simp [intOf]; omega
    ·
     have HX := zaa.mk hJx3
     have HM := zaa.mk hm3
     clear hJx3 hm3 hy' h30' h31' HRR'
     gi_wp2
     refine bodyPost_ret (results_none rfl _ _ _) rfl ?_
     exact ⟨⟨_, rfl⟩, .inr ⟨_, O2, HX.out, fun j hj => Nat.lt_of_lt_of_le (HST4.out.lt j hj) HM.out.size⟩⟩
   ·
    have HX := zaa.mk hJx3
    have HM := zaa.mk hm3
    clear hJx3 hm3 hy h30 h31 HRR
    gi_wp2
    refine ⟨fun _ h => (by cases h), ?_⟩
    gi_wp2
    refine bodyPost_ret (results_none rfl _ _ _) rfl ?_
    exact ⟨⟨_, rfl⟩, .inr ⟨_, O2, HX.out, fun j hj => Nat.lt_of_lt_of_le (HST3.out.lt j hj) HM.out.size⟩⟩
  ·
   obtain rfl : i = F.length := by omega
   rw [List.take_length] at hst
   replace HST := zaa.mk hst
   have b1 := hkp.at HB1.out.1 HB1.out.2
   have b2 := hkp.at HB2.out.1 HB2.out.2
   have hc1 := zah b1 0
   have hc2 := zah b2 0
   simp only [List.getElem?_toArray, List.getElem?_cons_zero] at hc1 hc2
   have HMC := zaa.mk ((callsIn_wide (n := n - 1)).2 (zc7 A0 c0 t u wr (HC.out _ hst.bl) hsm HML.out))
   obtain ⟨G, hG⟩ : ∃ G, G = zcZ t u := ⟨_, rfl⟩
   have HGE := zaa.mk hG
   have HGL := zaa.mk (show G.length < 4398046511104 by rw [hG]; exact HMU.out)
   rw [← hG] at HMC
   clear hst hkp b1 b2 hlt2 hi HROW hFl hG
   gi_wp2
   refine ⟨trivial, fun _ => by omega, HMC.out.mono ?_⟩
   rintro e w4 ⟨v, rfl, hS, hb4⟩
   have hR := Kd.S_R hS
   obtain ⟨A4, c4, hv⟩ := Kd.zaR hR
   subst hv
   obtain ⟨O4, hO4⟩ : ∃ O4, O4 = gr O' wr w4 := ⟨_, rfl⟩
   have hst4 := HST.out.grow hJ hn₀ hb4
   have hkp4 := HKP.out.grow HST.out.lt hb4
   rw [← hO4] at hst4 hkp4
   have HROW := zaa.mk (show ∀ W', (∀ k, O4 k → W'.heap[k]? = w4.heap[k]?) → Kd.R k51 51 W' 0 O4 (.slice A4 G.length c4) G from fun W' h =>
    Kd.zbm (Kd.zbM (w1 := W') (Kd.zaz (Kd.za0 hR) (ok' := O4) (fun k hk => by rw [hO4]; exact .inr ⟨hk.2.1, hk.2.2.1⟩)) (fun k hk _ => h k hk)) (Nat.zero_le _))
   replace HB1 := zaa.mk (show w4.heap[Bt]? = some (.cells #[.slice A0 t.length c0] 25 (0, 0)) ∧ O4 Bt from ⟨hkp4.at HB1.out.1 HB1.out.2, hkp4.sub _ HB1.out.2⟩)
   replace HB3 := zaa.mk (show w4.heap[Bs]? = some (.cells #[.string s] 9 (0, 0)) ∧ O4 Bs from ⟨hkp4.at HB3.out.1 HB3.out.2, hkp4.sub _ HB3.out.2⟩)
   have HST4 := zaa.mk hst4
   have hGl := HGL.out
   clear hst4 hkp4 hR hS hb4 HMC hO4 hc1 hc2 HB2 HST HKP
   gi_wp2
   gi_loopw [57] (fun v57 wx => ∃ (i : Nat) (O' : Nat → Prop), i ≤ G.length ∧ v57 = .int .i64 i ∧ zaa (St J n₀ w (F.flatMap (fwL t s) ++ (G.take i).flatMap (mwL t s)) O' wx ∧ Kp w4 O4 O' wx)) (fun v57 _ => G.length - (intOf v57).toNat)
   case atStart => exact ⟨0, O4, Nat.zero_le _, rfl, ⟨by simpa using HST4.out, Kp.self _ _⟩⟩
   case round =>
    obtain ⟨i, O5, hi, rfl, ⟨hst, hkp⟩⟩ := hrel
    clear HST4
    have HST := zaa.mk hst
    have HKP := zaa.mk hkp
    by_cases hlt2 : i < G.length
    ·
     obtain ⟨wo, hwo⟩ : ∃ wo, wo = wr := ⟨_, rfl⟩
     subst hwo
     have hRg := HROW.out wo hkp.eq
     obtain ⟨Ax, cx, ex, _, hCg⟩ := Kd.zbB hRg
     cases ex
     obtain ⟨ad, _, _, hA, -⟩ := zdF hCg (i : Int) o9 o9
     subst hA
     obtain ⟨vp, x0, x1, x2, hRp⟩ := zg3 hRg (i : Int) o9 o9
     rw [rdSn G i hlt2] at x0 x2 hRp
     simp only [Int.toNat_natCast] at x0 x1 x2
     obtain ⟨Ap, cp, hvp⟩ := Kd.zaR hRp
     subst hvp
     obtain ⟨m, hm⟩ : ∃ m, m = G[i] := ⟨_, rfl⟩
     rw [← hm] at x0 x1 x2 hRp
     have HME := zaa.mk hm
     have HPR := zaa.mk (show ∀ W', (∀ k, O4 k → W'.heap[k]? = wo.heap[k]?) → Kd.C k48 W' Ap m.f1.length m.f1 from fun W' h => by
      obtain ⟨A', c', e', _, hC'⟩ := Kd.zbB (Kd.zbM (w1 := W') hRp (fun k hk _ => h k hk))
      cases e'; exact hC')
     have hmm : m ∈ zcZ t u := by rw [← HGE.out, hm]; exact List.getElem_mem hlt2
     have HPL := zaa.mk (show m.f1.length < 4398046511104 ∧ m.f1.length ≤ (mth t s m.f0).f1.length from ⟨by have := List.all_eq_true.1 HPU.out m hmm; simpa using this, by have h := HWO.out; unfold zgY at h; have := List.all_eq_true.1 h m hmm; simpa using this⟩)
     have b1 := hkp.at HB1.out.1 HB1.out.2
     have b3 := hkp.at HB3.out.1 HB3.out.2
     obtain ⟨w5, hw5⟩ : ∃ w5, w5 = wo.alloc (.cells #[.string m.f0, .slice Ap m.f1.length cp, .string m.f2] 51) := ⟨_, rfl⟩
     have hc1 := zah (zaI b1 (.cells #[.string m.f0, .slice Ap m.f1.length cp, .string m.f2] 51)) 0
     have hc3 := zah (zaI b3 (.cells #[.string m.f0, .slice Ap m.f1.length cp, .string m.f2] 51)) 0
     simp only [List.getElem?_toArray, List.getElem?_cons_zero] at hc1 hc3
     have hbx5 : w5.heap[wo.heap.size]? = some (.cells #[.string m.f0, .slice Ap m.f1.length cp, .string m.f2] 51 (0, 0)) := by rw [hw5]; exact at_new _ _ rfl
     have hb5 : Below wo.heap.size wo w5 := by rw [hw5]; exact (Below.refl _ _).alloc (Nat.le_refl _) _
     have hbl5 : Below n₀ w w5 := hst.bl.trans (hb5.mono (Nat.le_trans hn₀ hst.bl.size))
     have hMT := zdo A0 c0 t s m.f0 w5 (HC.out _ hbl5) hsm
     obtain ⟨q, hq⟩ : ∃ q, q = mth t s m.f0 := ⟨_, rfl⟩
     rw [show methM t m.f0 (methodAt t m.f0 (lineL t s)) = q from hq.symm] at hMT
     rw [← hq] at HPL
     have HMT := zaa.mk ((callsIn_wide (n := n - 1)).2 hMT)
     have HBX5 := zaa.mk hbx5
     have HB5 := zaa.mk hb5
     have HQE := zaa.mk hq
     clear hst hkp b1 b3 hm hbx5 hb5 hbl5 hq hMT hRp hRg hCg hmm
     gi_wp2
     rw [← hw5]
     clear hw5 hc1 hc3 x0 x1 x2
     refine ⟨trivial, fun _ => by omega, HMT.out.mono ?_⟩
     rintro e w6 ⟨vq, rfl, hRq, hb6⟩
     obtain ⟨Aq, cq, hvq⟩ := Kd.zaR hRq
     subst hvq
     have hb56 := HB5.out.trans (hb6.mono HB5.out.size)
     have hbm6 := (hb6.block _ (zam HBX5.out)).trans HBX5.out
     have hm0 := zah (zaI hbm6 (.cells #[.string q.f0, .slice Aq q.f1.length cq, .string q.f2] 51)) 0
     have hm2 := zah (zaI hbm6 (.cells #[.string q.f0, .slice Aq q.f1.length cq, .string q.f2] 51)) 2
     have hq2 := zah (at_new w6 (.cells #[.string q.f0, .slice Aq q.f1.length cq, .string q.f2] 51 (0, 0)) rfl) 2
     simp only [List.getElem?_toArray, List.getElem?_cons_zero, List.getElem?_cons_succ] at hm0 hm2 hq2
     obtain ⟨w7, hw7⟩ : ∃ w7, w7 = w6.alloc (.cells #[.string q.f0, .slice Aq q.f1.length cq, .string q.f2] 51) := ⟨_, rfl⟩
     have hbq7 : w7.heap[w6.heap.size]? = some (.cells #[.string q.f0, .slice Aq q.f1.length cq, .string q.f2] 51 (0, 0)) := by rw [hw7]; exact at_new _ _ rfl
     have hbm7 : w7.heap[wo.heap.size]? = some (.cells #[.string m.f0, .slice Ap m.f1.length cp, .string m.f2] 51 (0, 0)) := by rw [hw7]; exact zaI hbm6 _
     have hb7 : Below wo.heap.size wo w7 := by rw [hw7]; exact hb56.alloc hb56.size _
     have hst7 := HST.out.grow hJ hn₀ hb7
     have hkp7 := HKP.out.grow HST.out.lt hb7
     obtain ⟨O7, hO7⟩ : ∃ O7, O7 = gr O5 wo w7 := ⟨_, rfl⟩
     rw [← hO7] at hst7 hkp7
     have hom : O7 wo.heap.size := by rw [hO7]; exact .inr ⟨Nat.le_refl _, zam hbm7⟩
     have hoq : O7 w6.heap.size := by rw [hO7]; exact .inr ⟨hb56.size, zam hbq7⟩
     have hRq7 : Kd.R k48 48 w7 w5.heap.size O7 (.slice Aq q.f1.length cq) q.f1 := by
      have h1 : Kd.R k48 48 w7 w5.heap.size (fun _ => True) (.slice Aq q.f1.length cq) q.f1 := by rw [hw7]; exact Kd.zaH hRq _
      exact Kd.zaz (Kd.za0 h1) (fun k hk => by rw [hO7]; exact .inr ⟨Nat.le_trans HB5.out.size hk.2.1, hk.2.2.1⟩)
     have hmw : ∀ k, (F.flatMap (fwL t s) ++ (G.take i).flatMap (mwL t s)) ++ [⟨m.f0, q.f2, m.f2⟩] ++ (pwL m.f0 m.f1 q.f1).take k <+: waysL t s u := fun k => by
      unfold waysL
      rw [← HFE.out, ← HGE.out]
      have h1 := zgS (mwL t s) G (i + 1)
      rw [zeO _ G i hlt2, ← HME.out] at h1
      have h2 : mwL t s m = ⟨m.f0, q.f2, m.f2⟩ :: pwL m.f0 m.f1 q.f1 := by unfold mwL; rw [← HQE.out]
      rw [h2] at h1
      have h3 : (G.take i).flatMap (mwL t s) ++ ([⟨m.f0, q.f2, m.f2⟩] ++ (pwL m.f0 m.f1 q.f1).take k) <+: G.flatMap (mwL t s) := List.IsPrefix.trans ⟨(pwL m.f0 m.f1 q.f1).drop k, by simp [List.take_append_drop]⟩ h1
      obtain ⟨r, hr⟩ := h3
      exact ⟨r, by rw [← hr]; simp⟩
     have hpw := hmw 0
     rw [List.take_zero, List.append_nil] at hpw
     obtain ⟨fn, tmps, assign, body, hy, hRr⟩ := HY.out _ ⟨m.f0, q.f2, m.f2⟩ O7 w7 hst7.j hpw hst7.lt
     simp only [encW] at hy
     rw [hw7] at hy
     have HRR := zaa.mk hRr
     have HMW := zaa.mk hmw
     have HST7 := zaa.mk hst7
     have HKP7 := zaa.mk hkp7
     have HBM7 := zaa.mk (And.intro hbm7 hom)
     have HBQ7 := zaa.mk (And.intro hbq7 hoq)
     have HRQ7 := zaa.mk hRq7
     have HW7 := zaa.mk hw7
     clear hRr hmw hst7 hkp7 hbm7 hom hbq7 hoq hRq7 hpw hb7 hbm6 hb56 hRq hb6 HMT hO7 hw7
     gi_wp2
     rw [← HW7.out]
     refine ⟨fun _ => by omega, HRR.out.mono ?_⟩
     rintro e W8 (⟨rfl, hJ3, hm3⟩ | ⟨rfl, hJx3, hm3⟩)
     ·
      have hst8 := HST7.out.yield hn₀ hJ3 hm3
      have hkp8 := HKP7.out.yield HST7.out.lt hm3
      have hk78 := (Kp.self w7 O7).yield HST7.out.lt hm3
      have hbm8 := hk78.at HBM7.out.1 HBM7.out.2
      have hbq8 := hk78.at HBQ7.out.1 HBQ7.out.2
      have HBM := zaa.mk (And.intro hbm8 HBM7.out.2)
      have HBQ := zaa.mk (And.intro hbq8 HBQ7.out.2)
      have HP8 := zaa.mk (show ∀ W', (∀ k, O7 k → W'.heap[k]? = W8.heap[k]?) → Kd.C k48 W' Ap m.f1.length m.f1 from fun W' h =>
       HPR.out W' (fun k hk => (h k (hkp8.sub k hk)).trans ((hkp8.eq k hk).trans (HKP.out.eq k hk).symm)))
      have HQ8 := zaa.mk (show ∀ W', (∀ k, O7 k → W'.heap[k]? = W8.heap[k]?) → Kd.C k48 W' Aq q.f1.length q.f1 from fun W' h => by
       obtain ⟨A', c', e', _, hC'⟩ := Kd.zbB (Kd.zbM (w1 := W') HRQ7.out (fun k hk _ => (h k hk).trans (hk78.eq k hk)))
       cases e'; exact hC')
      have hl1 := zah hbm8 1
      simp only [List.getElem?_toArray, List.getElem?_cons_zero, List.getElem?_cons_succ] at hl1
      obtain ⟨PRE, hPRE⟩ : ∃ PRE, PRE = (F.flatMap (fwL t s) ++ (G.take i).flatMap (mwL t s)) ++ [⟨m.f0, q.f2, m.f2⟩] := ⟨_, rfl⟩
      rw [← hPRE] at hst8 HMW
      have HPE := zaa.mk hPRE
      have HST8 := zaa.mk hst8
      have HKP8 := zaa.mk hkp8
      obtain ⟨bm, hbm⟩ : ∃ bm, bm = wo.heap.size := ⟨_, rfl⟩
      obtain ⟨bq, hbq⟩ : ∃ bq, bq = w6.heap.size := ⟨_, rfl⟩
      rw [← hbm] at HBM hl1 ⊢
      rw [← hbq] at HBQ ⊢
      clear hst8 hkp8 hk78 hbm8 hbq8 hJ3 hm3 hy hm0 hm2 hq2 HRR HPR HRQ7 HBM7 HBQ7 HW7 HST7 HKP7 HBX5 HB5 hPRE hbm hbq
      gi_wp2
      gi_loopw [83] (fun v83 wr => ∃ (k : Nat) (O' : Nat → Prop), k ≤ m.f1.length ∧ v83 = .int .i64 k ∧ zaa (St J n₀ w (PRE ++ (pwL m.f0 m.f1 q.f1).take k) O' wr ∧ Kp W8 O7 O' wr)) (fun v83 _ => m.f1.length - (intOf v83).toNat)
      case atStart => exact ⟨0, O7, Nat.zero_le _, rfl, ⟨by rw [List.take_zero, List.append_nil]; exact HST8.out, Kp.self _ _⟩⟩
      case round =>
       obtain ⟨k, O9, hk, rfl, ⟨hst, hkp⟩⟩ := hrel
       clear HST8 hl1
       have HST9 := zaa.mk hst
       have HKP9 := zaa.mk hkp
       have hml := HPL.out.1
       by_cases hlt3 : k < m.f1.length
       ·
        have hlt4 : k < q.f1.length := Nat.lt_of_lt_of_le hlt3 HPL.out.2
        obtain ⟨adp, hAp, y0, y1⟩ := zcM (HP8.out wr hkp.eq) (k : Int) o9 o9
        rw [rdVn m.f1 k hlt3] at y0 y1
        simp only [Int.toNat_natCast] at y0 y1
        obtain ⟨P, hP⟩ : ∃ P, P = m.f1[k] := ⟨_, rfl⟩
        rw [← hP] at y0 y1
        obtain ⟨w9, hw9⟩ : ∃ w9, w9 = wr.alloc (.cells #[.string P.f0, .string P.f1] 48) := ⟨_, rfl⟩
        have hb9 : Below wr.heap.size wr w9 := by rw [hw9]; exact (Below.refl _ _).alloc (Nat.le_refl _) _
        have hst9 := hst.grow hJ hn₀ hb9.drew
        have hkp9 := hkp.grow hst.lt hb9
        have hkp9d := hkp.grow hst.lt hb9.drew
        obtain ⟨adq, hAq, z0, z1⟩ := zcM (HQ8.out w9 hkp9.eq) (k : Int) o9 o9
        rw [rdVn q.f1 k hlt4] at z0 z1
        simp only [Int.toNat_natCast] at z0 z1
        obtain ⟨R, hR⟩ : ∃ R, R = q.f1[k] := ⟨_, rfl⟩
        rw [← hR] at z0 z1
        subst hAp hAq
        have g0 := zah (hkp9.at HBM.out.1 HBM.out.2) 0
        have g1 := zah (hkp9.at HBQ.out.1 HBQ.out.2) 1
        have hbp : w9.heap[wr.heap.size]? = some (.cells #[.string P.f0, .string P.f1] 48 (0, 0)) := by rw [hw9]; exact at_new _ _ rfl
        have g2 := zah hbp 1
        simp only [List.getElem?_toArray, List.getElem?_cons_zero, List.getElem?_cons_succ] at g0 g1 g2
        obtain ⟨fn, tmps, assign, body, hy, hRr⟩ := HY.out _ ⟨m.f0, P.f1, R.f1⟩ _ w9.drew hst9.j (by
         have h2 : PRE ++ (pwL m.f0 m.f1 q.f1).take k ++ [⟨m.f0, P.f1, R.f1⟩] = PRE ++ (pwL m.f0 m.f1 q.f1).take (k + 1) := by
          rw [zf5 _ _ _ k hlt3 hlt4, ← hP, ← hR, List.append_assoc]
         rw [h2]; exact HMW.out (k + 1)) hst9.lt
        simp only [encW] at hy
        have HRR := zaa.mk hRr
        have HST10 := zaa.mk hst9
        have HKP10 := zaa.mk hkp9d
        have HPR := zaa.mk (And.intro hP hR)
        have hkq : (k : Int) < (q.f1.length : Int) := by omega
        clear hst9 hkp9 hkp9d hst hkp hP hR hb9 hbp hRr
        gi_wp2
        rw [← hw9]
        clear hw9
        gi_region_with (refine ⟨fun _ => by omega, HRR.out.mono ?_⟩; rintro e W10 hE; obtain ⟨b, rfl, hbt⟩ := yd hE; have HBT := zaa.mk hbt; clear hbt hE)
        all_goals
         have hwp : PRE ++ (pwL m.f0 m.f1 q.f1).take k ++ [⟨m.f0, P.f1, R.f1⟩] = PRE ++ (pwL m.f0 m.f1 q.f1).take (k + 1) := by
          rw [zf5 _ _ _ k hlt3 hlt4, ← HPR.out.1, ← HPR.out.2, List.append_assoc]
         cases b with
         | true =>
          have hX := And.intro (HST10.out.yield hn₀ (HBT.out.1 rfl).1 (HBT.out.1 rfl).2) (HKP10.out.yield HST10.out.lt (HBT.out.1 rfl).2)
          rw [hwp] at hX
          have HX := zaa.mk hX
          clear hX hwp HBT hy y0 y1 z0 z1 g0 g1 g2
          gi_wp2
          go_roundw
          case rel => exact ⟨k + 1, _, by omega, by go_num, HX⟩
          case measure => simp [intOf]; omega
         | false =>
          have HX := zaa.mk (HBT.out.2 rfl)
          clear hwp HBT hy y0 y1 z0 z1 g0 g1 g2
          gi_wp2
          refine bodyPost_ret (results_none rfl _ _ _) rfl ?_
          exact ⟨⟨_, rfl⟩, .inr ⟨_, _, HX.out.1, fun j hj => Nat.lt_of_lt_of_le (HST10.out.lt j hj) HX.out.2.size⟩⟩
       ·
        obtain rfl : k = m.f1.length := by omega
        have hX := And.intro hst ((HKP8.out.trans hkp))
        rw [zht _ _ _ HPL.out.2] at hX
        have HX := zaa.mk hX
        clear hX hst hkp HST9 HKP9
        gi_wp2
        go_roundw
        case rel =>
         refine ⟨i + 1, O9, by omega, by go_num, ⟨?_, HX.out.2⟩⟩
         have h1 := HX.out.1
         have h2 : (F.flatMap (fwL t s) ++ (G.take (i + 1)).flatMap (mwL t s)) = PRE ++ pwL m.f0 m.f1 q.f1 := by
          rw [zeO _ G i hlt2, ← HME.out, HPE.out]
          have h2 : mwL t s m = ⟨m.f0, q.f2, m.f2⟩ :: pwL m.f0 m.f1 q.f1 := by unfold mwL; rw [← HQE.out]
          rw [h2]; simp
         rw [h2]; exact h1
        case measure => simp [intOf]; omega
     ·
      have HX := zaa.mk hJx3
      have HM := zaa.mk hm3
      clear hJx3 hm3 hy hm0 hm2 hq2 HRR
      gi_wp2
      refine bodyPost_ret (results_none rfl _ _ _) rfl ?_
      exact ⟨⟨_, rfl⟩, .inr ⟨_, O7, HX.out, fun j hj => Nat.lt_of_lt_of_le (HST7.out.lt j hj) HM.out.size⟩⟩
    ·
     obtain rfl : i = G.length := by omega
     rw [List.take_length] at hst
     replace HST := zaa.mk hst
     clear hst hkp hi hlt2
     gi_wp2
     refine bodyPost_end (results_none rfl _ _ _) rfl ?_
     exact ⟨⟨_, rfl⟩, .inl ⟨_, O5, by unfold waysL; rw [← HFE.out, ← HGE.out], HST.out.j, HST.out.lt⟩⟩
end Go.Proofs.YtfhgmebhdchegaaDoorTab
end

section
namespace Go.Proofs.YtfhgmebhdchegaaDoorRF
open Go.RowKit Go.Proofs.YtfhgmebhdchegaaDoorW.zas Go.Proofs.YtfhgmebhdchegaaDoorW.zai
section
variable {F : Fence} {n : Nat} {P : Program}
theorem zgF {α : Type} {g : Operand} {ps : Array Tmp} {assign body : Code} {Q : Exit → Act → World → Prop} {a : Act} {w : World}
  (hro : F.round = none) (h1 : 1 ≤ n) (gf : Nat) (lb : Array Value) (hg : a.eval g = .func (.func gf) #[] lb) (hFg : F.fn gf) (eg : ∀ args w, (callFunc gf args).run P w = .ok (.enter gf args) w)
  (encs : α → Array Value) (hps : ∀ x, (encs x).size = ps.size) {Pre S : List α → Prop} (O₀ Rd : Nat → Prop) (hO₀ : ∀ k, O₀ k → k < w.heap.size) (hRd : ∀ k, Rd k → k < w.heap.size)
  (hiter : Iter F (n - 1) P gf lb encs Pre S O₀ Rd w)
  (I : List α → (Nat → Prop) → World → Prop) (Ix : Code → List α → (Nat → Prop) → World → Prop) (hI : Stable I) (hIx : ∀ c, Stable (Ix c))
  (h0 : ∀ O, (∀ k, O k → O₀ k ∨ w.heap.size ≤ k) → ∀ W, Mv (fun _ => False) w W → I [] O W) (g_ : α → World → World) (hgB : ∀ x W, Below W.heap.size W (g_ x W)) (a₁ : α → World → Act)
  (hassign : ∀ (l : Nat) (x : α) (W : World) (K : Act → World → Prop), K (a₁ x W) (g_ x W) →
   assign.wpIn (F.inRound l) (n - 1 - 1) P (Exit.then K (fun _ _ _ => False)) { tmps := (ps.zip (encs x)).foldl (fun t (p, v) => t.setIfInBounds p v) a.tmps, defers := [] } W)
  (hbody : ∀ (l : Nat) (pre : List α) (x : α) (O : Nat → Prop) (W0 W : World), l < W0.heap.size → w.heap.size ≤ W0.heap.size → Mv (fun k => k = l) (g_ x W0) W → I pre O W → Pre (pre ++ [x]) → (∀ k, O k → k < W.heap.size) → O l → (∃ r, W.heap[l]? = some (.loop r)) → (∀ k, O₀ k → O k) → w.heap.size ≤ W.heap.size →
   body.wpIn (F.inRound l) (n - 1 - 1) P (rpost (fun k => O k ∨ Rd k) (fun s _ W => I s O W) (fun c s _ W => Ix c s O W) (pre ++ [x]) W) (a₁ x W0) W)
  (hdone : ∀ (D : Nat) (xs : List α) (O : Nat → Prop) (W : World), w.heap.size ≤ D → O D → (∀ k, O k → k < W.heap.size) → S xs → I xs O W → W.heap[D]? = some (.deferred (some [])) → Q .normal { a with defers := { target := .collected D, args := #[] } :: a.defers } W)
  (hstop : ∀ (D : Nat) (c : Code) (pre : List α) (O : Nat → Prop) (W : World), w.heap.size ≤ D → O D → (∀ k, O k → k < W.heap.size) → Ix c pre O W → W.heap[D]? = some (.deferred (some [])) → c.wpIn F n P Q { a with defers := { target := .collected D, args := #[] } :: a.defers } W) :
  (Code.rangeFunc g ps assign body).wpIn F n P Q a w := by
 refine wpIn_rangeFunc ?_
 intro fn hfn
 obtain ⟨rec, hrec⟩ : ∃ rec : LoopState → Option Code → Loop, rec = fun s p => { state := s, pending := p, fn, tmps := a.tmps, params := ps, assign, body, defers := w.heap.size } := ⟨_, rfl⟩
 obtain ⟨W1, hW1⟩ : ∃ W1, W1 = (w.alloc (.deferred (some []))).alloc (.loop (rec .ready none)) := ⟨_, rfl⟩
 have hmv1 : Mv (fun _ => False) w W1 := by rw [hW1]; exact ((Mv.refl _ w).alloc _).alloc _
 have hsz1 : W1.heap.size = w.heap.size + 2 := by rw [hW1]; simp
 have hL1 : W1.heap[w.heap.size + 1]? = some (.loop (rec .ready none)) := by rw [hW1]; exact at_new _ _ s9
 have hK1 : W1.heap[w.heap.size]? = some (.deferred (some [])) := by rw [hW1]; exact zaI (at_new _ _ rfl) _
 refine ⟨w.heap.size + 1, [{ target := .collected w.heap.size, args := #[] }], W1, { target := .fn (.func gf) lb, args := #[.func (.yield (w.heap.size + 1)) #[] #[]] }, W1, gf,
  #[.func (.yield (w.heap.size + 1)) #[] #[]] ++ lb, W1, ?_, ?_, ?_, ?_, fun _ => h1, ?_⟩
 ·
  rw [hW1, hrec, hro]; exact run_enterLoop_outer _ _ _ _ _
 ·
  simp only [resolve, hg]
  simp [go_sem, Deferred.ofValue, Act.eval]
 ·
  intro f' hf'; simp [Target.leads] at hf'; subst hf'; exact hFg
 ·
  simp [invoke, go_sem, eg]
 ·
  -- what the parties say to each other: the record and the block for deferred calls are the statement's own
  let B : (Nat → Prop) → Nat → Prop := fun O k => O k ∨ k = w.heap.size ∨ k = w.heap.size + 1
  have hBm : ∀ (O O' : Nat → Prop), (∀ k, O k → O' k) → ∀ k, B O k → B O' k := fun O O' h k hk => hk.imp (h k) id
  let J : List α → (Nat → Prop) → World → Prop := fun pre O W => I pre (B O) W ∧ Mine (w.heap.size + 1) (.loop (rec .ready none)) O W ∧ Mine w.heap.size (.deferred (some [])) O W ∧ (w.heap.size ≤ W.heap.size) ∧ (∀ k, O₀ k → O k)
  let Jx : List α → (Nat → Prop) → World → Prop := fun pre O W => (∃ c, Ix c pre (B O) W ∧ Mine (w.heap.size + 1) (.loop (rec .done (some c))) O W) ∧ Mine w.heap.size (.deferred (some [])) O W
  have hBst : ∀ {γ : Type} {K : γ → (Nat → Prop) → World → Prop}, Stable K → Stable (fun s O W => K s (B O) W) := fun hK s O O' W W' hs hm h1 h2 =>
   hK s (B O) (B O') W W' hs (hm.mono (fun k _ hk => Or.inl hk)) (hBm O O' h1) (fun k hk => by
    rcases hk with hk | hk
    ·
     rcases h2 k hk with x | x
     ·
      exact .inl (.inl x)
     ·
      exact .inr x
    ·
     exact .inl (.inr hk))
  have hJ : Stable J := (hBst hI).and ((Mine.stable (fun _ => _) (fun _ => _)).and ((Mine.stable (fun _ => _) (fun _ => _)).and (fun _ _ _ _ _ hs hm h1 _ => ⟨Nat.le_trans hs.1 hm.size, fun k hk => h1 k (hs.2 k hk)⟩)))
  have hJx : Stable Jx := (Stable.ex fun c => (hBst (hIx c)).and (Mine.stable (fun _ => _) (fun _ => _))).and (Mine.stable (fun _ => _) (fun _ => _))
  have turn : ∀ {pre : List α} {O : Nat → Prop} {W : World} (o : Obj), I pre (B O) W → I pre (B O) (W.putObj (w.heap.size + 1) o) := fun o h =>
   hI _ _ _ _ _ h ((Mv.refl _ _).putObj (.inl (.inr (.inr rfl))) o) (fun _ h => h) (fun _ h => .inl h)
  have turnx : ∀ {c : Code} {pre : List α} {O : Nat → Prop} {W : World} (o : Obj), Ix c pre (B O) W → Ix c pre (B O) (W.putObj (w.heap.size + 1) o) := fun o h =>
   hIx _ _ _ _ _ _ h ((Mv.refl _ _).putObj (.inl (.inr (.inr rfl))) o) (fun _ h => h) (fun _ h => .inl h)
  refine (hiter (w.heap.size + 1) J Jx O₀ W1 hJ hJx ?_ hmv1 (fun _ h => h) (fun k hk => by have := hO₀ k hk; omega)
   ⟨h0 _ (fun k hk => by rcases hk with hk | hk | hk; exact .inl hk; exact .inr o9; exact .inr o9) _ hmv1, ⟨hL1, fun e => by have := hO₀ _ e; omega⟩, ⟨hK1, fun e => by have := hO₀ _ e; omega⟩, hmv1.size, fun _ h => h⟩).mono ?_
  ·
   -- one round
   rintro pre x O W ⟨hi, ⟨hl, hlO⟩, ⟨hk, hkO⟩, hws, hOO⟩ hpre hO
   have hlt : w.heap.size + 1 < W.heap.size := zam hl
   have hy := run_yield (P := P) (args := encs x) hl (by rw [hrec]; exact hps x)
   rw [hrec] at hy
   have hbW := hgB x W
   have hmW : Mv (fun k => ¬ O k ∧ ¬ Rd k) W (g_ x W) := Mv.zbN hbW _
   obtain ⟨V, hV⟩ : ∃ V, V = g_ x W := ⟨_, rfl⟩
   rw [← hV] at hbW hmW
   have hlV := (hbW.block _ (zam hl)).trans hl
   have hkV := (hbW.block _ (zam hk)).trans hk
   have hiV : I pre (B O) V := hI _ (B O) (B O) _ _ hi (Mv.zbN hbW _) (fun _ h => h) (fun _ h => .inl h)
   have hOV : ∀ k, O k → k < V.heap.size := fun k h => Nat.lt_of_lt_of_le (hO k h) hbW.size
   have hwsV : w.heap.size ≤ V.heap.size := Nat.le_trans hws hbW.size
   have hltV : w.heap.size + 1 < V.heap.size := zam hlV
   refine ⟨fn, _, assign, body, hy, roundIn_of_wpIn hfn (hassign _ x W _ ?_)⟩
   rw [← hV]
   refine ⟨_, run_beginRound hlV (by rw [hrec]), ?_⟩
   have hl2 : (V.putObj (w.heap.size + 1) (.loop { rec .ready none with state := .busy })).heap[w.heap.size + 1]? = some (.loop { rec .ready none with state := .busy }) := World.putObj_heap_same hltV
   have hk2 : (V.putObj (w.heap.size + 1) (.loop { rec .ready none with state := .busy })).heap[w.heap.size]? = some (.deferred (some [])) := (World.putObj_heap_other o9).trans hkV
   have hmv2 : Mv (fun k => ¬ O k ∧ ¬ Rd k) V (V.putObj (w.heap.size + 1) (.loop { rec .ready none with state := .busy })) := (Mv.refl _ _).putObj (.inl ⟨hlO, fun e => by have := hRd _ e; omega⟩) _
   refine wpIn_mono (hbody _ pre x (B O) W _ hlt hws (by rw [← hV]; exact (Mv.refl (fun k => k = w.heap.size + 1) _).putObj (r := w.heap.size + 1) (.inl rfl) _) (turn _ hiV) hpre (fun k hk' => by simp; rcases hk' with h | h | h; exact hOV k h; omega; omega) (.inr (.inr rfl)) ⟨_, hl2⟩ (fun k h => .inl (hOO k h)) (by simpa using hwsV)) ?_
   have fin : ∀ (jump : Option Code) (W3 : World), Mv (fun k => ¬ (B O k ∨ Rd k)) (V.putObj (w.heap.size + 1) (.loop { rec .ready none with state := .busy })) W3 →
     (Instr.endRound (w.heap.size + 1) jump).run P W3 = .ok (.bool jump.isNone) (W3.putObj (w.heap.size + 1) (.loop (rec (if jump.isNone then .ready else .done) jump))) ∧
     (W3.putObj (w.heap.size + 1) (.loop (rec (if jump.isNone then .ready else .done) jump))).heap[w.heap.size + 1]? = some (.loop (rec (if jump.isNone then .ready else .done) jump)) ∧
     (W3.putObj (w.heap.size + 1) (.loop (rec (if jump.isNone then .ready else .done) jump))).heap[w.heap.size]? = some (.deferred (some [])) ∧
     Mv (fun k => ¬ O k ∧ ¬ Rd k) V (W3.putObj (w.heap.size + 1) (.loop (rec (if jump.isNone then .ready else .done) jump))) := fun jump W3 hm3 => by
    have hl3 := hm3.at hl2 (fun h => h (.inl (.inr (.inr rfl))))
    have hk3 := hm3.at hk2 (fun h => h (.inl (.inr (.inl rfl))))
    have := run_endRound (P := P) jump hl3
    refine ⟨?_, World.putObj_heap_same (zam hl3), (World.putObj_heap_other o9).trans hk3, ?_⟩
    ·
     rw [hrec] at this ⊢; exact this
    ·
     refine (hmv2.trans (hm3.mono (fun k _ h => ?_))).putObj (.inl ⟨hlO, fun e => by have := hRd _ e; omega⟩) _
     exact ⟨fun e => h (.inl (.inl e)), fun e => h (.inr e)⟩
   rintro e a3 W3 hp
   cases e with
   | normal =>
    obtain ⟨hm3, hi3⟩ := hp
    obtain ⟨hr, hl4, hk4, hm4⟩ := fin none W3 hm3
    exact ⟨_, _, hr, .inl ⟨rfl, ⟨turn _ hi3, ⟨hl4, hlO⟩, ⟨hk4, hkO⟩, Nat.le_trans hwsV hm4.size, hOO⟩, hmW.trans hm4⟩⟩
   | ret =>
    obtain ⟨hm3, hi3⟩ := hp
    obtain ⟨hr, hl4, hk4, hm4⟩ := fin (some .ret) W3 hm3
    exact ⟨_, _, hr, .inr ⟨rfl, ⟨⟨.ret, turnx _ hi3, hl4, hlO⟩, hk4, hkO⟩, hmW.trans hm4⟩⟩
   | exit id =>
    obtain ⟨hm3, hi3⟩ := hp
    obtain ⟨hr, hl4, hk4, hm4⟩ := fin (some (.exit id)) W3 hm3
    exact ⟨_, _, hr, .inr ⟨rfl, ⟨⟨.exit id, turnx _ hi3, hl4, hlO⟩, hk4, hkO⟩, hmW.trans hm4⟩⟩
   | goto t =>
    obtain ⟨hm3, hi3⟩ := hp
    obtain ⟨hr, hl4, hk4, hm4⟩ := fin (some (.goto t)) W3 hm3
    exact ⟨_, _, hr, .inr ⟨rfl, ⟨⟨.goto t, turnx _ hi3, hl4, hlO⟩, hk4, hkO⟩, hmW.trans hm4⟩⟩
   | panic ch => exact hp.elim
   | outgrown => exact hp.elim
  ·
   -- behind the iterator
   rintro e W2 ⟨⟨v, rfl⟩, (⟨xs, O, hS, ⟨hi, ⟨hl, hlO⟩, ⟨hk, hkO⟩, _⟩, hO⟩ | ⟨pre, O, ⟨⟨c, hi, hl, hlO⟩, hk, hkO⟩, hO⟩)⟩
   ·
    exact ⟨none, _, by have := run_endLoop (P := P) hl (by rw [hrec]; simp); rw [hrec] at this; exact this,
     hdone _ xs (B O) _ (Nat.le_refl _) (.inr (.inl rfl)) (fun k hk' => by have := zam hl; simp; rcases hk' with h | h | h; exact hO k h; omega; omega) hS (turn _ hi) ((World.putObj_heap_other o9).trans hk)⟩
   ·
    exact ⟨some c, _, by have := run_endLoop (P := P) hl (by rw [hrec]; simp); rw [hrec] at this; exact this,
     hstop _ c pre (B O) _ (Nat.le_refl _) (.inr (.inl rfl)) (fun k hk' => by have := zam hl; simp; rcases hk' with h | h | h; exact hO k h; omega; omega) (turnx _ hi) ((World.putObj_heap_other o9).trans hk)⟩
end
end Go.Proofs.YtfhgmebhdchegaaDoorRF
end

section
namespace Go.Proofs.YtfhgmebhdchegaaDoorTab
open Go.RowKit Go.Proofs.YtfhgmebhdchegaaDoor.PAll Go.Proofs.YtfhgmebhdchegaaDoorW.zai Go.Proofs.YtfhgmebhdchegaaDoorW.zas Go.Proofs.YtfhgmebhdchegaaDoorRF Go.Proofs.YtfhgmebhdchegaaDoorRG
attribute [local go_sem] Oper.semAt_some
def onlyN (Q : Exit → Act → World → Prop) : Exit → Act → World → Prop
 | .normal, a, w => Q .normal a w
 | _, _, _ => False
theorem zdf {P : Program} {ops : Array Oper} {Q : Exit → Act → World → Prop} {id N n : Nat} {r : Option Nat} {a : Act} {w : World} (m : Nat) (ρ : World → World → Prop) (hm : P.follows .mixedOrders = true) (hok : rgOk ops m N = true) (hd : zeK ops = true) (hN : a.tmps.size = N) (hrefl : ∀ w, ρ w w) (htrans : ∀ {A B C}, ρ A B → ρ B C → ρ A C)
  (h : RG P ops (onlyN Q) ρ a w.drew m [] (List.range m)) : (Code.region id ops true).wpIn { Fence.wide with round := r } n P Q a w :=
 wpIn_mono (zcV (Q := onlyN Q) m ρ hm hok hd (fun _ _ h => h) hN hrefl htrans h) (fun e a w h => by cases e <;> first | exact h | exact h.elim)
structure SkP (A0 : Option Addr) (c0 : Nat) (t : List (S43)) (H : ByteArray → ByteArray → Bool) (w : World) : Prop where
 tab : Kd.C k43 w A0 t.length t
 le : t.length ≤ 40
 sm : Small t
 has : ∀ w', Below w.heap.size w w' → ∀ p q, p < t.length → q < t.length → Calls Tryd.prog 21 #[.slice A0 t.length c0, .string (clsAt t p).f0, .string (clsAt t q).f0] w' fun e w'' => e = .returned (.bool (H (clsAt t p).f0 (clsAt t q).f0)) ∧ Below w'.heap.size w' w''
 fit : ∀ p q, p < t.length → q < t.length → H (clsAt t p).f0 (clsAt t q).f0 = true → wfit t (clsAt t p).f0 (clsAt t q).f0 = true
theorem SkP.below {A0 : Option Addr} {c0 : Nat} {t : List (S43)} {H : ByteArray → ByteArray → Bool} {w w' : World} (h : SkP A0 c0 t H w) (hb : Below w.heap.size w w') : SkP A0 c0 t H w' :=
 ⟨Kd.zay h.tab hb, h.le, h.sm, fun w'' hb' => h.has w'' (hb.trans (hb'.mono hb.size)), h.fit⟩
theorem Mat.set {b : Nat} {S : List (Nat × Nat)} {W : World} {cs : Array Value} (h : Mat b S W cs) {i k : Nat} (hi : i < 40) (hk : k < 40) (r : Bool) (hS : (i, k) ∉ S) :
  Mat b (if r = true then S else (i, k) :: S) (W.setCell ⟨b, i * 40 + k, none⟩ (.bool r)) (cs.setIfInBounds (i * 40 + k) (.bool r)) := by
 refine ⟨zbo h.lies _ _, by simp [h.size], fun i' k' hi' hk' => ?_⟩
 by_cases he : i = i' ∧ k = k'
 ·
  obtain ⟨rfl, rfl⟩ := he
  rw [Array.getElem?_setIfInBounds]
  rw [if_pos rfl, if_pos (by rw [h.size]; omega)]
  cases r with
  | true => simp [hS]
  | false => simp
 ·
  rw [Array.getElem?_setIfInBounds_ne (by intro e; exact he o9), h.at_ i' k' hi' hk']
  cases r with
  | true => rfl
  | false =>
   have : (i', k') ≠ (i, k) := fun e => he (by cases e; exact ⟨rfl, rfl⟩)
   simp [this]
theorem Mat.drew {b : Nat} {S : List (Nat × Nat)} {W : World} {cs : Array Value} (h : Mat b S W cs) : Mat b S W.drew cs := ⟨h.lies, h.size, h.at_⟩
structure SI (A0 : Option Addr) (c0 : Nat) (t : List (S43)) (S : List (Nat × Nat)) (b bf : Nat) (r : Bool) (w : World) (O : Nat → Prop) (W : World) : Prop where
 p0 : Mine w.heap.size (.cells #[.pointer (some ⟨b, 0, none⟩)] 65 (0, 0)) O W
 p1 : Mine (w.heap.size + 1) (.cells #[.slice A0 t.length c0] 25 (0, 0)) O W
 p2 : Mine bf (.cells #[.bool r] 4 (0, 0)) O W
 bl : Below w.heap.size w W
 lo : ∀ k, O k → w.heap.size ≤ k
theorem SI.stable (A0 : Option Addr) (c0 : Nat) (t : List (S43)) (S : List (Nat × Nat)) (b bf : Nat) (r : Bool) (w : World) (p : List Wy → Prop) : Stable (fun (s : List Wy) O W => SI A0 c0 t S b bf r w O W ∧ p s) := fun s O O' W W' h hm h1 h2 => by
 have hst : ∀ {b : Nat} {o : Obj}, Mine b o O W → Mine b o O' W' := fun hb => Mine.stable (β := Unit) (fun _ => _) (fun _ => _) () O O' W W' hb hm h1 h2
 exact ⟨⟨hst h.1.p0, hst h.1.p1, hst h.1.p2, h.1.bl.trans (hm.below h.1.bl.size h.1.lo), fun k hk => (h2 k hk).elim (h.1.lo k) (fun x => by have := h.1.bl.size; omega)⟩, h.2⟩
theorem zef (A0 : Option Addr) (c0 : Nat) (t : List (S43)) (H : ByteArray → ByteArray → Bool) (b : Nat) (S : List (Nat × Nat)) (cs : Array Value) (i k : Nat) (w : World) (hP : SkP A0 c0 t H w) (hi : i < t.length) (hk : k < t.length) (hM : Mat b S w cs) :
  Calls Tryd.prog 50 #[.pointer (some ⟨b, 0, none⟩), .slice A0 t.length c0, .int .i64 i, .int .i64 k] w fun e w' => e = .returned (.bool (zcR t H S i k)) ∧ (∃ cs', Mat b (if zcR t H S i k = true then (i, k) :: S else S) w' cs') ∧ Mv (fun x => x = b) w w' := by
 have hu25 := Tryd.underlying25
 have hu43 := Tryd.underlying43
 have hu69 := Tryd.underlying69
 have hu96 := Tryd.underlying96
 have hu94 := Tryd.underlying94
 have hle := hP.le
 obtain ⟨w1, hw1⟩ : ∃ w1, w1 = (w.alloc (.cells #[.pointer (some ⟨b, 0, none⟩)] 65)).alloc (.cells #[.slice A0 t.length c0] 25) := ⟨_, rfl⟩
 have HS1 := zaa.mk (show w1.heap.size = w.heap.size + 2 by rw [hw1]; simp)
 have hb1 : Below w.heap.size w w1 := by rw [hw1]; exact ((Below.refl _ _).alloc (Nat.le_refl _) _).alloc s9 _
 have e0 : w1.heap[w.heap.size]? = some (.cells #[.pointer (some ⟨b, 0, none⟩)] 65 (0, 0)) := by rw [hw1]; exact zaI (at_new w _ rfl) _
 have e1 : w1.heap[w.heap.size + 1]? = some (.cells #[.slice A0 t.length c0] 25 (0, 0)) := by rw [hw1]; exact at_new _ _ s9
 have HBX := zaa.mk (show ∀ w', Below w1.heap.size w1 w' → w'.heap[w.heap.size]? = some (.cells #[.pointer (some ⟨b, 0, none⟩)] 65 (0, 0)) ∧ w'.heap[w.heap.size + 1]? = some (.cells #[.slice A0 t.length c0] 25 (0, 0)) from fun w' h => ⟨(h.block _ (zam e0)).trans e0, (h.block _ (zam e1)).trans e1⟩)
 have HP := zaa.mk hP
 have HM := zaa.mk (show ∀ w', Below w.heap.size w w' → Mat b S w' cs from fun w' h => hM.below h (zam hM.lies))
 have HBB := zaa.mk (zam hM.lies)
 have HB := zaa.mk hb1
 have g0 := zah e0 0
 have g1 := zah e1 0
 simp only [List.getElem?_toArray, List.getElem?_cons_zero] at g0 g1
 obtain ⟨ad, _, _, _, _, hA, x0, -⟩ := zb0 (hP.below hb1).tab (i : Int) o9 o9
 obtain ⟨ad', _, _, _, _, hA', y0, -⟩ := zb0 (hP.below hb1).tab (k : Int) o9 o9
 subst hA
 cases hA'
 simp only [Int.toNat_natCast] at x0 y0
 obtain ⟨s, hs⟩ : ∃ s, s = (clsAt t i).f0 := ⟨_, rfl⟩
 obtain ⟨u, hu⟩ : ∃ u, u = (clsAt t k).f0 := ⟨_, rfl⟩
 rw [show (zbF t (i : Int)).f0 = s from hs.symm] at x0
 rw [show (zbF t (k : Int)).f0 = u from hu.symm] at y0
 have i1 : (i : Int) < (t.length : Int) := by omega
 have k1 : (k : Int) < (t.length : Int) := by omega
 have i0 : (0 : Int) ≤ (i : Int) := by omega
 have k0 : (0 : Int) ≤ (k : Int) := by omega
 have i4 : (i : Int) < 40 := by omega
 have k4 : (k : Int) < 40 := by omega
 obtain ⟨r, hr⟩ : ∃ r, r = zcR t H S i k := ⟨_, rfl⟩
 rw [← hr]
 obtain ⟨S', hS'⟩ : ∃ S', S' = if r = true then (i, k) :: S else S := ⟨_, rfl⟩
 rw [← hS']
 have HS' := zaa.mk hS'
 clear hS'
 unfold zcR at hr
 rw [← hs, ← hu] at hr
 have HQ := zaa.mk hr
 have HH := zaa.mk (show ∀ w', Below w.heap.size w w' → _ from fun w' h => hP.has w' h i k hi hk)
 have HF := zaa.mk (show H s u = true → wfit t s u = true by rw [hs, hu]; exact hP.fit i k hi hk)
 rw [← hs, ← hu] at HH
 have HIK := zaa.mk (And.intro (show i < 40 by omega) (show k < 40 by omega))
 clear hr hP hM hb1 e0 e1 hs hu hi hk
 refine (callsIn_wide (n := 5)).1 ?_
 refine callsIn_of_wp_marks Tryd.func50 rfl trivial ?_ rfl
 simp only [Tryd.ntmps50, List.size_toArray, List.length_cons, List.length_nil, Nat.reduceAdd, Nat.reduceSub, Array.replicate_succ, Array.replicate_zero, List.push_toArray, List.append_toArray, List.nil_append, List.cons_append]
 gi_wp2
 rw [← hw1]
 clear hw1
 gi_region
 obtain ⟨w2, hw2⟩ : ∃ w2, w2 = w1.drew := ⟨_, rfl⟩
 rw [← hw2]
 have hb2 : Below w.heap.size w w2 := by rw [hw2]; exact HB.out.drew
 have hb12 : Below w1.heap.size w1 w2 := by rw [hw2]; exact (Below.refl _ _).drew
 obtain ⟨e0, e1⟩ := HBX.out w2 hb12
 clear hw2 g0 g1 x0 y0 i1 k1 HB
 have g0 := zah e0 0
 have g1 := zah e1 0
 simp only [List.getElem?_toArray, List.getElem?_cons_zero] at g0 g1
 have gc := (HM.out w2 hb2).cell HIK.out.1 HIK.out.2
 obtain ⟨d, hd⟩ : ∃ d, d = decide ((i, k) ∉ S) := ⟨_, rfl⟩
 have HD := zaa.mk hd
 rw [← hd] at gc HQ
 obtain ⟨be, hbe⟩ : ∃ be, be = belB t s u := ⟨_, rfl⟩
 have hbl := zdk _ c0 t s u w2 (HP.out.below hb2).tab o9
 rw [← hbe] at hbl HQ
 have HBL := zaa.mk ((callsIn_wide (n := 4)).2 hbl)
 have HB2 := zaa.mk hb2
 have HB12 := zaa.mk hb12
 clear hb2 hb12 e0 e1 hd hbe hbl
 cases d with
 | false =>
  obtain rfl : r = false := by simpa using HQ.out
  obtain rfl : S' = S := by simpa using HS'.out
  clear g1 HBL HH HF
  as_aux_lemma =>
   gi_wp2
   refine ⟨trivial, ?_⟩
   gi_wp2
   exact ⟨_, results_tmp rfl _ _ _, rfl, ⟨cs, HM.out _ HB2.out⟩, Mv.zbN HB2.out _⟩
 | true =>
  gi_wp2
  refine ⟨trivial, HBL.out.mono ?_⟩
  rintro e w3 ⟨rfl, hb⟩
  have hb3 := HB2.out.trans (hb.mono HB2.out.size)
  have hb13 := HB12.out.trans (hb.mono HB12.out.size)
  obtain ⟨e0, e1⟩ := HBX.out w3 hb13
  clear g0 g1 gc HBL hb
  have g0 := zah e0 0
  have g1 := zah e1 0
  simp only [List.getElem?_toArray, List.getElem?_cons_zero] at g0 g1
  have HB3 := zaa.mk hb3
  have HB13 := zaa.mk hb13
  cases be with
  | true =>
   obtain rfl : r = false := by simpa using HQ.out
   obtain rfl : S' = S := by simpa using HS'.out
   clear hb3 hb13 e0 e1 HH HF
   as_aux_lemma =>
    gi_wp2
    exact ⟨_, results_tmp rfl _ _ _, rfl, ⟨cs, HM.out _ HB3.out⟩, Mv.zbN HB3.out _⟩
  | false =>
   have hHh := HH.out w3 hb3
   obtain ⟨h, hh⟩ : ∃ h, h = H s u := ⟨_, rfl⟩
   rw [← hh] at hHh HQ HF
   have HHh := zaa.mk ((callsIn_wide (n := 4)).2 hHh)
   clear hb3 hb13 e0 e1 hHh hh HH
   gi_wp2
   refine ⟨trivial, HHh.out.mono ?_⟩
   rintro e w4 ⟨rfl, hb⟩
   have hb4 := HB3.out.trans (hb.mono HB3.out.size)
   have hb14 := HB13.out.trans (hb.mono HB13.out.size)
   clear g0 g1 HHh hb
   obtain ⟨w5, hw5⟩ : ∃ w5, w5 = w4.alloc (.cells #[.bool h] 4) := ⟨_, rfl⟩
   have hb5 : Below w.heap.size w w5 := by rw [hw5]; exact hb4.alloc hb4.size _
   have hb15 : Below w1.heap.size w1 w5 := by rw [hw5]; exact hb14.alloc hb14.size _
   have ef : w5.heap[w4.heap.size]? = some (.cells #[.bool h] 4 (0, 0)) := by rw [hw5]; exact at_new _ _ rfl
   obtain ⟨e0, e1⟩ := HBX.out w5 hb15
   have hm5 := HM.out w5 hb5
   have hbf : b ≠ w4.heap.size := by have := HBB.out; have := hb4.size; omega
   have HE := zaa.mk (And.intro e0 (And.intro e1 ef))
   have HB5 := zaa.mk hb5
   have HB15 := zaa.mk hb15
   have HM5 := zaa.mk hm5
   obtain ⟨bf, hbfe⟩ : ∃ bf, bf = w4.heap.size := ⟨_, rfl⟩
   have HBFE := zaa.mk hbfe
   have HBW4 := zaa.mk (show w.heap.size + 2 ≤ w4.heap.size by have := hb14.size; have := HS1.out; omega)
   cases h with
   | false =>
    have HW5 := zaa.mk hw5
    have HBF := zaa.mk hbf
    clear hb4 hb14 hb5 hb15 e0 e1 hm5 hbf ef hbfe HBFE HF hw5
    as_aux_lemma =>
     gi_wp2
     rw [← HW5.out]
     refine zdf (r := none) (N := 64) 7 Grows k9 k9 k9 rfl Grows.refl Grows.trans ?_
     rw [show List.range 7 = [0, 1, 2, 3, 4, 5, 6] from rfl]
     refine rgv (.pointer (some ⟨b, 0, none⟩)) ?_ ?_
     ·
      intro a w' hr hs
      have h4 := hs.ov 4 (.pointer (some ⟨w.heap.size, 0, none⟩))
      have g := zah (hr.at (zb6 HE.out.1)) 0
      simp only [ga] at g
      go_simp
     refine rgv (.int .i64 (i : Int)) ?_ ?_
     ·
      intro a w' hr hs
      have h2 := hs.ov 2 (.int .i64 (i : Int))
      go_simp
     refine rgv (.int .i64 (k : Int)) ?_ ?_
     ·
      intro a w' hr hs
      have h3 := hs.ov 3 (.int .i64 (k : Int))
      go_simp
     refine rgv (.bool false) ?_ ?_
     ·
      intro a w' hr hs
      have h11 := hs.ov 11 (.pointer (some ⟨w4.heap.size, 0, none⟩))
      have g := zah (hr.at (zb6 HE.out.2.2)) 0
      simp only [ga] at g
      go_simp
     refine rgv (.pointer (some ⟨b, 0, none⟩)) ?_ ?_
     ·
      intro a w' hr hs
      have h55 := hs.gv 3 rfl rfl
      go_simp
     refine rgv (.pointer (some ⟨b, i * 40, none⟩)) ?_ ?_
     ·
      intro a w' hr hs
      have h59 := hs.gv 0 rfl rfl
      have h56 := hs.gv 3 rfl rfl
      go_simp
     refine rgv (.pointer (some ⟨b, i * 40 + k, none⟩)) ?_ ?_
     ·
      intro a w' hr hs
      have h60 := hs.gv 0 rfl rfl
      have h57 := hs.gv 3 rfl rfl
      go_simp
     intro vs wz hr hE
     have e0 : vs 0 = .pointer (some ⟨b, 0, none⟩) := hE _ (zaf 6 rfl)
     have e1 : vs 1 = .int .i64 (i : Int) := hE _ (zaf 5 rfl)
     have e2 : vs 2 = .int .i64 (k : Int) := hE _ (zaf 4 rfl)
     have e3 : vs 3 = .bool false := hE _ (zaf 3 rfl)
     have e4 : vs 4 = .pointer (some ⟨b, 0, none⟩) := hE _ (zaf 2 rfl)
     have e5 : vs 5 = .pointer (some ⟨b, i * 40, none⟩) := hE _ (zaf 1 rfl)
     have e6 : vs 6 = .pointer (some ⟨b, i * 40 + k, none⟩) := hE _ (zaf 0 rfl)
     rw [show List.range 7 = [0, 1, 2, 3, 4, 5, 6] from rfl]
     simp only [ps, ga, pa, e0, e1, e2, e3, e4, e5, e6]
     clear hE e0 e1 e2 e3 e4 e5 e6
     have hmz : Mat b S wz cs := HM5.out.drew.below hr (zam HM5.out.lies)
     have HRZ := zaa.mk hr
     have HMZ := zaa.mk hmz
     have gb := hmz.cell HIK.out.1 HIK.out.2
     have zb := free_at hmz.lies (i * 40 + k)
     have gf2 := zah (at_set (hr.at (zb6 HE.out.2.2)) (p := ⟨b, i * 40 + k, none⟩) (Ne.symm HBF.out) (.bool false)) 0
     simp only [ga] at gf2
     refine zbY (i := 7) (r := []) (w' := wz.setCell ⟨b, i * 40 + k, none⟩ (.bool false)) rfl (zax rfl) q9 (zbd ?_)
     clear hr hmz gb zb
     simp only [onlyN]
     gi_wp2
     have hn : (i, k) ∉ S := of_decide_eq_true HD.out.symm
     have hr1 : r = true := by simpa using HQ.out
     have hS1 : S' = (i, k) :: S := by rw [HS'.out, if_pos hr1]
     rw [hr1, hS1]
     refine ⟨_, results_tmp rfl _ _ _, rfl, ⟨cs.setIfInBounds (i * 40 + k) (.bool false), ?_⟩, (Mv.zbN (HB5.out.drew.trans (HRZ.out.mono HB5.out.size)) (fun x => x = b)).setCell (p := ⟨b, i * 40 + k, none⟩) (.inl rfl) _⟩
     exact HMZ.out.set HIK.out.1 HIK.out.2 false hn
   | true =>
    have hfit := HF.out rfl
    have g1 := zah e1 0
    simp only [List.getElem?_toArray, List.getElem?_cons_zero] at g1
    rw [hw5] at g1
    have HWY := zaa.mk ((callsIn_wide (n := 4)).2 (zfy (some ad) t.length c0 s u w5))
    have HFIT := zaa.mk hfit
    clear hb4 hb14 hb5 hb15 e0 e1 hm5 hbf ef hfit HF
    gi_wp2
    rw [← hw5]
    clear hw5 g1
    refine ⟨trivial, HWY.out.mono ?_⟩
    rintro e w6 ⟨rfl, hw6⟩
    have hB5 := HB5.out.size
    have q0 : w6.heap[w5.heap.size]? = some (.cells #[.slice (some ad) t.length c0] 25 (0, 0)) := by rw [hw6]; exact zaI (zaI (at_new _ _ rfl) _) _
    have q1 : w6.heap[w5.heap.size + 1]? = some (.cells #[.string s] 9 (0, 0)) := by rw [hw6]; exact zaI (at_new _ _ s9) _
    have q2 : w6.heap[w5.heap.size + 1 + 1]? = some (.cells #[.string u] 9 (0, 0)) := by rw [hw6]; exact at_new _ _ s9
    have hb56 : Below w5.heap.size w5 w6 := by rw [hw6]; exact (((Below.refl _ _).alloc (Nat.le_refl _) _).alloc s9 _).alloc (by simp; omega) _
    have hs6 : w6.heap.size = w5.heap.size + 3 := by rw [hw6]; simp
    have hb6 : Below w.heap.size w w6 := HB5.out.trans (hb56.mono hB5)
    have p0 := (hb56.block _ (zam HE.out.1)).trans HE.out.1
    have p1 := (hb56.block _ (zam HE.out.2.1)).trans HE.out.2.1
    have p2 := (hb56.block _ (zam HE.out.2.2)).trans HE.out.2.2
    have hl2 := zam HE.out.2.2
    have hbfw : w.heap.size + 2 ≤ w4.heap.size := HBW4.out
    have HS6 := zaa.mk (show w.heap.size ≤ w6.heap.size by omega)
    have hl1 := zam HE.out.2.1
    clear hw6
    gi_wp2
    refine zgF (n := 5) rfl o9 84 #[.pointer (some ⟨w5.heap.size, 0, none⟩), .pointer (some ⟨w5.heap.size + 1 + 1, 0, none⟩), .pointer (some ⟨w5.heap.size + 1, 0, none⟩)] rfl trivial (zcA Tryd.func84 k9 rfl)
     encW (fun _ => rfl) (fun k => k = w5.heap.size ∨ k = w5.heap.size + 1 + 1 ∨ k = w5.heap.size + 1) (fun k => k < w.heap.size) (fun k hk => by rcases hk with rfl | rfl | rfl <;> omega) (fun k h => by have := hb6.size; omega)
     (zfB 4 o9 (some ad) c0 t s u _ _ _ w.heap.size w6 hb6.size (fun w' h => (HP.out.below (hb6.trans h)).tab) HP.out.sm HFIT.out q0 q2 q1)
     (fun pre O W => SI (some ad) c0 t S b w4.heap.size true w O W ∧ (pre.all fun x => goesB t S x.a x.b) = true) (fun c _ O W => c = .exit 0 ∧ SI (some ad) c0 t S b w4.heap.size false w O W ∧ ((waysL t s u).all fun x => goesB t S x.a x.b) = false)
     (SI.stable (some ad) c0 t S b w4.heap.size true w (fun pre => (pre.all fun x => goesB t S x.a x.b) = true)) (fun c => (Stable.pure (fun _ => c = .exit 0)).and (SI.stable (some ad) c0 t S b w4.heap.size false w (fun _ => ((waysL t s u).all fun x => goesB t S x.a x.b) = false))) ?_
     (fun x W0 => W0.alloc (.cells #[.string x.a, .string x.b] 69)) (fun x W0 => (Below.refl _ _).alloc (Nat.le_refl _) _)
     (fun x W0 => { tmps := #[.pointer (some ⟨b, 0, none⟩), .slice (some ad) t.length c0, .int .i64 (i : Int), .int .i64 (k : Int), .pointer (some ⟨w.heap.size, 0, none⟩), .pointer (some ⟨w.heap.size + 1, 0, none⟩), undef, undef, .bool false, .string s, .string u, .pointer (some ⟨w4.heap.size, 0, none⟩), undef, .pointer (some ⟨W0.heap.size, 0, none⟩), .slice (some ad) t.length c0, .int .i64 (i : Int), .pointer (some (ad.add (i * 4))), .pointer (some (ad.add (i * 4))), .string s, .slice (some ad) t.length c0, .int .i64 (k : Int), .pointer (some (ad.add (k * 4))), .pointer (some (ad.add (k * 4))), .string u, .pointer (some ⟨b, 0, none⟩), .int .i64 (i : Int), .int .i64 (k : Int), .pointer (some ⟨b, 0, none⟩), .pointer (some ⟨b, i * 40, none⟩), .pointer (some ⟨b, i * 40 + k, none⟩), .bool true, .bool false, .bool false, .slice (some ad) t.length c0, .string s, .string u, .bool false, .bool false, .slice (some ad) t.length c0, .string s, .string u, .bool true, .bool true, .slice (some ad) t.length c0, .string s, .string u, .func (.func 84) #[] #[.pointer (some ⟨w5.heap.size, 0, none⟩), .pointer (some ⟨w5.heap.size + 1 + 1, 0, none⟩), .pointer (some ⟨w5.heap.size + 1, 0, none⟩)], .string x.nm, .agg #[.string x.a, .string x.b], undef, undef, undef, undef, undef, undef, undef, undef, undef, undef, undef, undef, undef, undef, undef], defers := [] }) ?assign ?body ?done ?stop
    ·
     intro O hO W hW
     have go : ∀ {b : Nat} {o : Obj}, w6.heap[b]? = some o → b < w5.heap.size → Mine b o O W := fun h hlt => ⟨hW.at h (fun h => h), fun e => by rcases hO _ e with (h | h | h) | h <;> omega⟩
     exact ⟨⟨go p0 o9, go p1 hl1, go p2 hl2, hb6.trans (hW.below hb6.size (fun _ h => h.elim)), fun k hk => by rcases hO k hk with (h | h | h) | h <;> omega⟩, rfl⟩
    case assign =>
     intro l x W K hK
     simp only [encW]
     gi_wp2
     exact hK
    case body =>
     intro l pre x O W0 W hl0 hws0 hmW hI hpre hOl hOlp hrec hOO hsz2
     have hbx := hmW.at (at_new W0 (.cells #[.string x.a, .string x.b] 69 (0, 0)) rfl) o9
     have a0 := zah hI.1.p0.1 0
     have a1 := zah hI.1.p1.1 0
     have z0 := zah hbx 0
     have z1 := zah hbx 1
     simp only [List.getElem?_toArray, List.getElem?_cons_zero, List.getElem?_cons_succ] at a0 a1 z0 z1
     obtain ⟨r, hr⟩ : ∃ r, r = goesB t S x.a x.b := ⟨_, rfl⟩
     have HG := zdV (some ad) c0 t b S cs x.a x.b W (HP.out.below hI.1.bl).tab hle (HM.out W hI.1.bl)
     rw [← hr] at HG
     have HG := zaa.mk (CallsIn.inRound l (callsIn_wide (n := 2).2 HG))
     have HI := zaa.mk hI
     have HR := zaa.mk hr
     have HPRE := zaa.mk hpre
     clear hI hr hpre hOl hOlp hrec hOO hsz2 hmW hbx hl0 hws0 q0 q1 q2 p0 p1 p2 hb6 hb56 hs6
     as_aux_lemma =>
      gi_wp2
      refine ⟨trivial, HG.out.mono ?_⟩
      rintro e w7 ⟨rfl, hb7⟩
      have f2 := (hb7.block _ (zam HI.out.1.p2.1)).trans HI.out.1.p2.1
      have c2 := zah f2 0
      have d2 := free_at f2 0
      simp only [List.getElem?_toArray, List.getElem?_cons_zero] at c2
      have hmv : Mv (fun k => ¬ (O k ∨ k < w.heap.size)) W (w7.setCell ⟨w4.heap.size, 0, none⟩ (.bool r)) := (Mv.zbN hb7 _).setCell (p := ⟨w4.heap.size, 0, none⟩) (.inl (fun e => by
       rcases e with e | e
       ·
        exact HI.out.1.p2.2 e
       ·
        have e' : w4.heap.size < w.heap.size := e
        omega)) _
      have hsi : SI (some ad) c0 t S b w4.heap.size r w O (w7.setCell ⟨w4.heap.size, 0, none⟩ (.bool r)) := by
       have h := HI.out.1
       have hm := fun {b : Nat} {o : Obj} (hm : Mine b o O W) => (⟨(hb7.block _ (zam hm.1)).trans hm.1, hm.2⟩ : Mine b o O w7)
       exact ⟨(hm h.p0).set (by simp; omega) _, (hm h.p1).set (by simp; omega) _, (hm h.p2).one _, h.bl.trans (hmv.below h.bl.size (fun k e => Nat.not_lt.1 (fun e' => e (.inr e')))), h.lo⟩
      have HX := zaa.mk (And.intro hmv hsi)
      clear f2 hb7 hmv hsi HG a0 a1 z0 z1
      cases r with
      | true =>
       gi_wp2
       exact ⟨HX.out.1, HX.out.2, by rw [List.all_append, HI.out.2]; simp [← HR.out]⟩
      | false =>
       gi_wp2
       refine ⟨HX.out.1, rfl, HX.out.2, ?_⟩
       obtain ⟨y, hy⟩ := HPRE.out
       rw [← hy]; simp [← HR.out]
    case done =>
     intro D xs O W hD hOD hOl hS hI hK
     subst hS
     rw [hI.2] at HQ
     have hm := HM.out W hI.1.bl
     have HBF := zaa.mk (show b ≠ w4.heap.size by have := HBB.out; omega)
     have HK' := zaa.mk (show W.heap[D]? = some (.deferred (some [])) ∧ D ≠ b from ⟨hK, by have := HBB.out; have := HS6.out; omega⟩)
     have HI := zaa.mk hI
     have HMM := zaa.mk hm
     have hD0 := HS6.out
     clear hI hm hK q0 q1 q2 p0 p1 p2 hb6 hb56 hs6
     as_aux_lemma =>
      gi_wp2
      refine zdf (r := none) (N := 64) 7 Grows k9 k9 k9 rfl Grows.refl Grows.trans ?_
      rw [show List.range 7 = [0, 1, 2, 3, 4, 5, 6] from rfl]
      refine rgv (.pointer (some ⟨b, 0, none⟩)) ?_ ?_
      ·
       intro a w' hr hs
       have h4 := hs.ov 4 (.pointer (some ⟨w.heap.size, 0, none⟩))
       have g := zah (hr.at (zb6 HI.out.1.p0.1)) 0
       simp only [ga] at g
       go_simp
      refine rgv (.int .i64 (i : Int)) ?_ ?_
      ·
       intro a w' hr hs
       have h2 := hs.ov 2 (.int .i64 (i : Int))
       go_simp
      refine rgv (.int .i64 (k : Int)) ?_ ?_
      ·
       intro a w' hr hs
       have h3 := hs.ov 3 (.int .i64 (k : Int))
       go_simp
      refine rgv (.bool true) ?_ ?_
      ·
       intro a w' hr hs
       have h11 := hs.ov 11 (.pointer (some ⟨w4.heap.size, 0, none⟩))
       have g := zah (hr.at (zb6 HI.out.1.p2.1)) 0
       simp only [ga] at g
       go_simp
      refine rgv (.pointer (some ⟨b, 0, none⟩)) ?_ ?_
      ·
       intro a w' hr hs
       have h55 := hs.gv 3 rfl rfl
       go_simp
      refine rgv (.pointer (some ⟨b, i * 40, none⟩)) ?_ ?_
      ·
       intro a w' hr hs
       have h59 := hs.gv 0 rfl rfl
       have h56 := hs.gv 3 rfl rfl
       go_simp
      refine rgv (.pointer (some ⟨b, i * 40 + k, none⟩)) ?_ ?_
      ·
       intro a w' hr hs
       have h60 := hs.gv 0 rfl rfl
       have h57 := hs.gv 3 rfl rfl
       go_simp
      intro vs wz hr hE
      have e0 : vs 0 = .pointer (some ⟨b, 0, none⟩) := hE _ (zaf 6 rfl)
      have e1 : vs 1 = .int .i64 (i : Int) := hE _ (zaf 5 rfl)
      have e2 : vs 2 = .int .i64 (k : Int) := hE _ (zaf 4 rfl)
      have e3 : vs 3 = .bool true := hE _ (zaf 3 rfl)
      have e4 : vs 4 = .pointer (some ⟨b, 0, none⟩) := hE _ (zaf 2 rfl)
      have e5 : vs 5 = .pointer (some ⟨b, i * 40, none⟩) := hE _ (zaf 1 rfl)
      have e6 : vs 6 = .pointer (some ⟨b, i * 40 + k, none⟩) := hE _ (zaf 0 rfl)
      rw [show List.range 7 = [0, 1, 2, 3, 4, 5, 6] from rfl]
      simp only [ps, ga, pa, e0, e1, e2, e3, e4, e5, e6]
      clear hE e0 e1 e2 e3 e4 e5 e6
      have hmz : Mat b S wz cs := HMM.out.drew.below hr (zam HMM.out.lies)
      have HRZ := zaa.mk hr
      have HMZ := zaa.mk hmz
      have gb := hmz.cell HIK.out.1 HIK.out.2
      have zb := free_at hmz.lies (i * 40 + k)
      have gf2 := zah (at_set (hr.at (zb6 HI.out.1.p2.1)) (p := ⟨b, i * 40 + k, none⟩) (Ne.symm HBF.out) (.bool true)) 0
      simp only [ga] at gf2
      refine zbY (i := 7) (r := []) (w' := wz.setCell ⟨b, i * 40 + k, none⟩ (.bool true)) rfl (zax rfl) q9 (zbd ?_)
      clear hr hmz gb zb
      simp only [onlyN]
      gi_wp2
      refine ⟨by simp, .inl ⟨_, _, rfl, run_takeDeferred (at_set (HRZ.out.at (zb6 HK'.out.1)) (p := ⟨b, i * 40 + k, none⟩) HK'.out.2 _), ?_⟩⟩
      have hn : (i, k) ∉ S := of_decide_eq_true HD.out.symm
      have hbD : b ≠ D := by have := HBB.out; have := HS6.out; omega
      refine ⟨_, results_tmp rfl _ _ _, by rw [HQ.out]; rfl, ⟨cs.setIfInBounds (i * 40 + k) (.bool true), ?_⟩, ((Mv.zbN (HI.out.1.bl.drew.trans (HRZ.out.mono HI.out.1.bl.size)) (fun x => x = b)).setCell (p := ⟨b, i * 40 + k, none⟩) (.inl rfl) _).putObj (r := D) (.inr (by have := HS6.out; omega)) _⟩
      rw [HS'.out, HQ.out]
      have h1 := HMZ.out.set HIK.out.1 HIK.out.2 true hn
      exact ⟨zcm h1.lies hbD _, h1.size, h1.at_⟩
    case stop =>
     rintro D c pre O W hD hOD hOl ⟨rfl, hI, hno⟩ hK
     rw [hno] at HQ
     have hm := HM.out W hI.bl
     have HBF := zaa.mk (show b ≠ w4.heap.size by have := HBB.out; omega)
     have HK' := zaa.mk (show W.heap[D]? = some (.deferred (some [])) ∧ D ≠ b from ⟨hK, by have := HBB.out; have := HS6.out; omega⟩)
     have HI := zaa.mk hI
     have HMM := zaa.mk hm
     have hD0 := HS6.out
     clear hI hm hK hno q0 q1 q2 p0 p1 p2 hb6 hb56 hs6
     as_aux_lemma =>
      gi_wp2
      refine zdf (r := none) (N := 64) 7 Grows k9 k9 k9 rfl Grows.refl Grows.trans ?_
      rw [show List.range 7 = [0, 1, 2, 3, 4, 5, 6] from rfl]
      refine rgv (.pointer (some ⟨b, 0, none⟩)) ?_ ?_
      ·
       intro a w' hr hs
       have h4 := hs.ov 4 (.pointer (some ⟨w.heap.size, 0, none⟩))
       have g := zah (hr.at (zb6 HI.out.p0.1)) 0
       simp only [ga] at g
       go_simp
      refine rgv (.int .i64 (i : Int)) ?_ ?_
      ·
       intro a w' hr hs
       have h2 := hs.ov 2 (.int .i64 (i : Int))
       go_simp
      refine rgv (.int .i64 (k : Int)) ?_ ?_
      ·
       intro a w' hr hs
       have h3 := hs.ov 3 (.int .i64 (k : Int))
       go_simp
      refine rgv (.bool false) ?_ ?_
      ·
       intro a w' hr hs
       have h11 := hs.ov 11 (.pointer (some ⟨w4.heap.size, 0, none⟩))
       have g := zah (hr.at (zb6 HI.out.p2.1)) 0
       simp only [ga] at g
       go_simp
      refine rgv (.pointer (some ⟨b, 0, none⟩)) ?_ ?_
      ·
       intro a w' hr hs
       have h55 := hs.gv 3 rfl rfl
       go_simp
      refine rgv (.pointer (some ⟨b, i * 40, none⟩)) ?_ ?_
      ·
       intro a w' hr hs
       have h59 := hs.gv 0 rfl rfl
       have h56 := hs.gv 3 rfl rfl
       go_simp
      refine rgv (.pointer (some ⟨b, i * 40 + k, none⟩)) ?_ ?_
      ·
       intro a w' hr hs
       have h60 := hs.gv 0 rfl rfl
       have h57 := hs.gv 3 rfl rfl
       go_simp
      intro vs wz hr hE
      have e0 : vs 0 = .pointer (some ⟨b, 0, none⟩) := hE _ (zaf 6 rfl)
      have e1 : vs 1 = .int .i64 (i : Int) := hE _ (zaf 5 rfl)
      have e2 : vs 2 = .int .i64 (k : Int) := hE _ (zaf 4 rfl)
      have e3 : vs 3 = .bool false := hE _ (zaf 3 rfl)
      have e4 : vs 4 = .pointer (some ⟨b, 0, none⟩) := hE _ (zaf 2 rfl)
      have e5 : vs 5 = .pointer (some ⟨b, i * 40, none⟩) := hE _ (zaf 1 rfl)
      have e6 : vs 6 = .pointer (some ⟨b, i * 40 + k, none⟩) := hE _ (zaf 0 rfl)
      rw [show List.range 7 = [0, 1, 2, 3, 4, 5, 6] from rfl]
      simp only [ps, ga, pa, e0, e1, e2, e3, e4, e5, e6]
      clear hE e0 e1 e2 e3 e4 e5 e6
      have hmz : Mat b S wz cs := HMM.out.drew.below hr (zam HMM.out.lies)
      have HRZ := zaa.mk hr
      have HMZ := zaa.mk hmz
      have gb := hmz.cell HIK.out.1 HIK.out.2
      have zb := free_at hmz.lies (i * 40 + k)
      have gf2 := zah (at_set (hr.at (zb6 HI.out.p2.1)) (p := ⟨b, i * 40 + k, none⟩) (Ne.symm HBF.out) (.bool false)) 0
      simp only [ga] at gf2
      refine zbY (i := 7) (r := []) (w' := wz.setCell ⟨b, i * 40 + k, none⟩ (.bool false)) rfl (zax rfl) q9 (zbd ?_)
      clear hr hmz gb zb
      simp only [onlyN]
      gi_wp2
      refine ⟨by simp, .inl ⟨_, _, rfl, run_takeDeferred (at_set (HRZ.out.at (zb6 HK'.out.1)) (p := ⟨b, i * 40 + k, none⟩) HK'.out.2 _), ?_⟩⟩
      have hn : (i, k) ∉ S := of_decide_eq_true HD.out.symm
      have hbD : b ≠ D := by have := HBB.out; have := HS6.out; omega
      refine ⟨_, results_tmp rfl _ _ _, by rw [HQ.out]; rfl, ⟨cs.setIfInBounds (i * 40 + k) (.bool false), ?_⟩, ((Mv.zbN (HI.out.bl.drew.trans (HRZ.out.mono HI.out.bl.size)) (fun x => x = b)).setCell (p := ⟨b, i * 40 + k, none⟩) (.inl rfl) _).putObj (r := D) (.inr (by have := HS6.out; omega)) _⟩
      rw [HS'.out, HQ.out]
      have h1 := HMZ.out.set HIK.out.1 HIK.out.2 false hn
      exact ⟨zcm h1.lies hbD _, h1.size, h1.at_⟩
end Go.Proofs.YtfhgmebhdchegaaDoorTab
end

section
namespace Go.Proofs.YtfhgmebhdchegaaDoorTab
open Go.RowKit Go.Proofs.YtfhgmebhdchegaaDoor.PAll Go.Proofs.YtfhgmebhdchegaaDoorW.zai Go.Proofs.YtfhgmebhdchegaaDoorW.zas Go.Proofs.YtfhgmebhdchegaaDoorRF Go.Proofs.YtfhgmebhdchegaaDoorRG
theorem zeroP : (Tryd.zeroCells96).size = 1600 ∧ ∀ j, j < 1600 → (Tryd.zeroCells96)[j]? = some (.bool false) := by
 rw [show Tryd.zeroCells96 = Array.replicate 1600 (.bool false) by kernel_rfl]
 exact ⟨Array.size_replicate, fun j hj => by rw [Array.getElem?_replicate, if_pos hj]⟩
structure Ini (b m : Nat) (w W : World) : Prop where
 cs : ∃ cs, W.heap[b]? = some (.cells cs 96 (0, 0)) ∧ cs.size = 1600 ∧ ∀ j, j < 1600 → cs[j]? = some (.bool (decide (j < m)))
 bl : Below b w W
theorem Ini.put {b i k : Nat} {w W : World} (h : Ini b (i * 40 + k) w W) (hi : i < 40) (hk : k < 40) (hb : w.heap.size ≤ b) : Ini b (i * 40 + (k + 1)) w (W.setCell ⟨b, i * 40 + k, none⟩ (.bool true)) := by
 obtain ⟨⟨cs, h1, h2, h3⟩, h4⟩ := h
 refine ⟨⟨_, zbo h1 _ _, by simp [h2], fun j hj => ?_⟩, h4.trans (((Mv.refl (fun k => b ≤ k) W).setCell (p := ⟨b, i * 40 + k, none⟩) (.inl (Nat.le_refl _)) _).below (Nat.le_of_lt (zam h1)) (fun _ h => h))⟩
 rw [Array.getElem?_setIfInBounds]
 by_cases he : i * 40 + k = j
 ·
  subst he
  rw [if_pos rfl, if_pos (by rw [h2]; omega), decide_eq_true (show i * 40 + k < i * 40 + (k + 1) by omega)]
 ·
  rw [if_neg he, h3 j hj]
  have : decide (j < i * 40 + k) = decide (j < i * 40 + (k + 1)) := by
   by_cases hlt : j < i * 40 + k
   ·
    rw [decide_eq_true hlt, decide_eq_true o9]
   ·
    rw [decide_eq_false hlt, decide_eq_false o9]
  rw [this]
theorem Ini.mat {b : Nat} {w W : World} (h : Ini b 1600 w W) : ∃ cs, Mat b [] W cs := by
 obtain ⟨⟨cs, h1, h2, h3⟩, _⟩ := h
 refine ⟨cs, h1, h2, fun i k hi hk => ?_⟩
 rw [h3 _ o9, decide_eq_true o9]
 simp
theorem zgc (A0 : Option Addr) (c0 : Nat) (t : List (S43)) (H : ByteArray → ByteArray → Bool) (K : Nat) (R : List (Nat × Nat)) (w : World) (hP : SkP A0 c0 t H w) (hR : allF t H K [] = some R) :
  Calls Tryd.prog 30 #[.slice A0 t.length c0] w fun e w' => e = .returned (.pointer (some ⟨w.heap.size, 0, none⟩)) ∧ (∃ cs, Mat w.heap.size R w' cs) ∧ Below w.heap.size w w' := by
 have hu96 := Tryd.underlying96
 have hu94 := Tryd.underlying94
 have HP := zaa.mk hP
 have HR := zaa.mk hR
 have hle := hP.le
 have HPB := zaa.mk (show ∀ b, b = w.heap.size → ∀ w', Below b w w' → SkP A0 c0 t H w' from fun b e w' h => hP.below (e ▸ h))
 have HZ := zaa.mk zeroP
 clear hP hR
 go_enter Tryd.func30, Tryd.ntmps30
 go_wp2_with fail
 refine wp_scope_straight ?_
 go_wp2_with fail
 obtain ⟨w0, hw0⟩ : ∃ w0, w0 = w.alloc (.cells Tryd.zeroCells96 96) := ⟨_, rfl⟩
 rw [← hw0]
 obtain ⟨b, hb⟩ : ∃ b, b = w.heap.size := ⟨_, rfl⟩
 have hI0 : Ini b (0 * 40) w w0 := by
  refine ⟨⟨_, by rw [hw0, hb]; exact at_new _ _ rfl, HZ.out.1, fun j hj => by rw [HZ.out.2 j hj]; rfl⟩, ?_⟩
  rw [hw0, hb]; exact (Below.refl _ _).alloc (Nat.le_refl _) _
 have HI0 := zaa.mk hI0
 have HBE := zaa.mk hb
 rw [← hb]
 clear hw0 hI0 hb HZ
 go_loopw [9] (fun v9 wr => ∃ i : Nat, i ≤ 40 ∧ v9 = .int .i64 i ∧ zaa (Ini b (i * 40) w wr)) (fun v9 _ => 40 - (intOf v9).toNat)
 case atStart => exact ⟨0, by omega, rfl, HI0⟩
 case round =>
  obtain ⟨i, hi, rfl, HI⟩ := hrel
  by_cases hlt : i < 40
  ·
   obtain ⟨wo, hwo⟩ : ∃ wo, wo = wr := ⟨_, rfl⟩
   subst hwo
   go_wp2_with fail
   go_loopw [12] (fun v12 wr => ∃ k : Nat, k ≤ 40 ∧ v12 = .int .i64 k ∧ zaa (Ini b (i * 40 + k) w wr)) (fun v12 _ => 40 - (intOf v12).toNat)
   case atStart => exact ⟨0, by omega, rfl, ⟨HI.out⟩⟩
   case round =>
    obtain ⟨k, hk, rfl, HI⟩ := hrel
    by_cases hlt2 : k < 40
    ·
     obtain ⟨cs, h1, h2, h3⟩ := HI.out.cs
     have c1 := (zah h1 (i * 40 + k)).trans (h3 _ o9)
     have f1 := free_at h1 (i * 40 + k)
     have i0 : (0 : Int) ≤ (i : Int) := by omega
     have k0 : (0 : Int) ≤ (k : Int) := by omega
     have i4 : (i : Int) < 40 := by omega
     have k4 : (k : Int) < 40 := by omega
     clear h1 h2 h3
     go_wp2_with fail
     go_roundw
     case rel => exact ⟨k + 1, by omega, by go_num, ⟨HI.out.put hlt hlt2 (Nat.le_of_eq HBE.out.symm)⟩⟩
     case measure => simp [intOf]; omega
    ·
     obtain rfl : k = 40 := by omega
     go_wp2_with fail
     go_roundw
     case rel => exact ⟨i + 1, by omega, by go_num, ⟨by have h := HI.out; rwa [show i * 40 + 40 = (i + 1) * 40 by omega] at h⟩⟩
     case measure => simp [intOf]; omega
  ·
   obtain rfl : i = 40 := by omega
   have HM := zaa.mk HI.out.mat
   have HB := zaa.mk HI.out.bl
   clear HI0 HI
   go_wp2_with fail
   refine wp_label ?_
   rename_i hKK
   refine hKK _ _ ?_
   go_wp2_with fail
   go_loopg [6] K (fun kq v6 wr => ∃ S, zaa (allF t H kq S = some R ∧ (∃ cs, Mat b S wr cs) ∧ Below b w wr))
   case atStart => exact ⟨[], ⟨HR.out, HM.out, HB.out⟩⟩
   case round =>
    clear HM HB HR
    obtain ⟨S0, ⟨hall, hmat, hbl⟩⟩ := hrel
    cases gk with
    | zero => cases hall
    | succ k1 =>
     have HALL := zaa.mk hall
     have hr0 : rowsF t H 0 S0 = (S0, 0) := rfl
     have HX0 := zaa.mk (show (∃ cs, Mat b (rowsF t H 0 S0).1 wr cs) ∧ Below b w wr from ⟨hmat, hbl⟩)
     clear hall hmat hbl hr0
     go_wp2_with fail
     go_loopw [6, 23] (fun v6 v23 wr => ∃ i : Nat, i ≤ t.length ∧ v23 = .int .i64 i ∧ v6 = .int .i64 ((rowsF t H i S0).2 : Int) ∧ zaa ((∃ cs, Mat b (rowsF t H i S0).1 wr cs) ∧ Below b w wr)) (fun _ v23 _ => t.length - (intOf v23).toNat)
     case atStart => exact ⟨0, Nat.zero_le _, rfl, rfl, HX0⟩
     case round =>
      clear HX0
      obtain ⟨i, hi, rfl, rfl, HX⟩ := hrel
      by_cases hlt : i < t.length
      ·
       go_wp2_with fail
       go_loopw [6, 28] (fun v6 v28 wr => ∃ k : Nat, k ≤ t.length ∧ v28 = .int .i64 k ∧ v6 = .int .i64 ((rowF t H i k (rowsF t H i S0)).2 : Int) ∧ zaa ((∃ cs, Mat b (rowF t H i k (rowsF t H i S0)).1 wr cs) ∧ Below b w wr)) (fun _ v28 _ => t.length - (intOf v28).toNat)
       case atStart => exact ⟨0, Nat.zero_le _, rfl, rfl, HX⟩
       case round =>
        clear HX
        obtain ⟨k, hk, rfl, rfl, ⟨⟨cs, hm⟩, hbl⟩⟩ := hrel
        by_cases hlt2 : k < t.length
        ·
         have hn1 := ze0 t H i (rowsF t H i S0) k
         have hn2 := zfl t H S0 i
         have hn3 : i * t.length ≤ 40 * 40 := Nat.mul_le_mul o9 hle
         have hsuc := zc0 t H i k (rowsF t H i S0)
         obtain ⟨st, hst⟩ : ∃ st, st = rowF t H i k (rowsF t H i S0) := ⟨_, rfl⟩
         rw [← hst] at hm hn1 hsuc ⊢
         have hn : st.2 < 4000 := by omega
         have HS := zef A0 c0 t H b st.1 cs i k wr (HPB.out b HBE.out wr hbl) hlt hlt2 hm
         unfold stepF at hsuc
         obtain ⟨r, hr⟩ : ∃ r, r = zcR t H st.1 i k := ⟨_, rfl⟩
         rw [← hr] at HS hsuc
         have HS := zaa.mk HS
         have HSU := zaa.mk hsuc
         have HBL := zaa.mk hbl
         have HSZ := zaa.mk (zam hm.lies)
         clear hn1 hn2 hn3 hst hm hr hsuc hbl
         go_wp2_with fail
         refine HS.out.mono ?_
         rintro e w2 ⟨rfl, ⟨cs', hm'⟩, hmv⟩
         have hb2 : Below b w w2 := HBL.out.trans (hmv.below (Nat.le_of_lt HSZ.out) (fun k h => Nat.le_of_eq h.symm))
         cases r with
         | true =>
          have HM' := zaa.mk (show Mat b ((i, k) :: st.1) w2 cs' from hm')
          have HB2 := zaa.mk hb2
          clear hm' hmv hb2 HS
          go_wp2_with fail
          go_roundw
          case rel => refine ⟨_, _, _, _, _, _, _, _, _, _, _, _, ?_, rfl⟩; exact ⟨k + 1, by omega, by go_num, by rw [HSU.out, if_pos trivial]; go_num, ⟨⟨cs', by rw [HSU.out, if_pos trivial]; exact HM'.out⟩, HB2.out⟩⟩
          case measure => simp [intOf]; omega
         | false =>
          have HM' := zaa.mk (show Mat b st.1 w2 cs' from hm')
          have HB2 := zaa.mk hb2
          clear hm' hmv hb2 HS
          go_wp2_with fail
          go_roundw
          case rel => refine ⟨_, _, _, _, _, _, _, _, _, _, _, _, ?_, rfl⟩; exact ⟨k + 1, by omega, by go_num, by rw [HSU.out, if_neg d9], ⟨⟨cs', by rw [HSU.out, if_neg d9]; exact HM'.out⟩, HB2.out⟩⟩
          case measure => simp [intOf]; omega
        ·
         obtain rfl : k = t.length := by omega
         have HX := zaa.mk (And.intro hm hbl)
         clear hm hbl
         go_wp2_with fail
         go_roundw
         case rel => exact ⟨i + 1, by omega, by go_num, by rw [zco], ⟨⟨cs, by rw [zco]; exact HX.out.1⟩, HX.out.2⟩⟩
         case measure => simp [intOf]; omega
      ·
       obtain rfl : i = t.length := by omega
       have hall := HALL.out
       unfold allF at hall
       by_cases h0 : (rowsF t H t.length S0).2 = 0
       ·
        rw [if_pos h0] at hall
        have hR := Option.some.inj hall
        have HRR := zaa.mk hR
        clear hall hR
        go_wp2_with fail
        simp only [Exit.noGoto]
        go_ret
        exact ⟨by rw [HBE.out]; rfl, by rw [← HRR.out, ← HBE.out]; exact HX.out.1, by rw [← HBE.out]; exact HX.out.2⟩
       ·
        rw [if_neg h0] at hall
        have HA2 := zaa.mk hall
        clear hall
        go_wp2_with fail
        go_roundg k1
        case measure => omega
        case rel => exact ⟨_, ⟨HA2.out, HX.out.1, HX.out.2⟩⟩
theorem zfM (t : List (S43)) (H1 H2 : ByteArray → ByteArray → Bool) (h : ∀ p q, p < t.length → q < t.length → H1 (clsAt t p).f0 (clsAt t q).f0 = H2 (clsAt t p).f0 (clsAt t q).f0) : ∀ (k : Nat) (S : List (Nat × Nat)), allF t H1 k S = allF t H2 k S := by
 have h1 : ∀ i, i < t.length → ∀ n, n ≤ t.length → ∀ st, rowF t H1 i n st = rowF t H2 i n st := fun i hi n => by
  induction n with
  | zero => intro _ _; rfl
  | succ n ih =>
   intro hn st
   rw [zc0, zc0, ih o9 st]
   unfold stepF zcR
   rw [h i n hi o9]
 have h2 : ∀ n, n ≤ t.length → ∀ S, rowsF t H1 n S = rowsF t H2 n S := fun n => by
  induction n with
  | zero => intro _ _; rfl
  | succ n ih =>
   intro hn S
   rw [zco, zco, ih o9 S, h1 n o9 _ (Nat.le_refl _)]
 intro k
 induction k with
 | zero => intro _; rfl
 | succ k ih =>
  intro S
  unfold allF
  rw [h2 _ (Nat.le_refl _), ih]
theorem zcG (A0 : Option Addr) (c0 : Nat) (t : List (S43)) (s u : ByteArray) (H : ByteArray → ByteArray → Bool) (K : Nat) (R : List (Nat × Nat)) (bm bs bu : Bool) (w : World)
  (hm : Calls Tryd.prog 20 #[.slice A0 t.length c0] w fun e w'' => e = .returned (.bool bm) ∧ Below w.heap.size w w'')
  (hs : bm = true → ∀ w', Below w.heap.size w w' → Calls Tryd.prog 29 #[.slice A0 t.length c0, .string s] w' fun e w'' => e = .returned (.bool bs) ∧ Below w'.heap.size w' w'')
  (hu : bm = true → bs = true → ∀ w', Below w.heap.size w w' → Calls Tryd.prog 29 #[.slice A0 t.length c0, .string u] w' fun e w'' => e = .returned (.bool bu) ∧ Below w'.heap.size w' w'')
  (hP : bm = true → bs = true → bu = true → SkP A0 c0 t H w ∧ allF t H K [] = some R) :
  Calls Tryd.prog 15 #[.slice A0 t.length c0, .string s, .string u] w fun e w' => e = .returned (.bool (bm && bs && bu && goesB t R s u)) ∧ Below w.heap.size w w' := by
 have HM := zaa.mk hm
 have HS := zaa.mk hs
 have HU := zaa.mk hu
 have HP := zaa.mk hP
 clear hm hs hu hP
 go_enter Tryd.func15, Tryd.ntmps15
 go_wp2_with fail
 refine HM.out.mono ?_
 rintro e w1 ⟨rfl, hb⟩
 have HB := zaa.mk hb
 clear hb HM
 cases bm with
 | false =>
  go_wp2_with fail
  go_ret
  exact ⟨rfl, HB.out⟩
 | true =>
  have HS1 := zaa.mk (HS.out rfl w1 HB.out)
  go_wp2_with fail
  refine HS1.out.mono ?_
  rintro e w2 ⟨rfl, hb⟩
  replace HB := zaa.mk (HB.out.trans (hb.mono HB.out.size))
  clear hb HS1 HS
  cases bs with
  | false =>
   go_wp2_with fail
   go_ret
   exact ⟨rfl, HB.out⟩
  | true =>
   have HU1 := zaa.mk (HU.out trivial rfl w2 HB.out)
   go_wp2_with fail
   refine HU1.out.mono ?_
   rintro e w3 ⟨rfl, hb⟩
   replace HB := zaa.mk (HB.out.trans (hb.mono HB.out.size))
   clear hb HU1 HU
   cases bu with
   | false =>
    go_wp2_with fail
    go_ret
    exact ⟨rfl, HB.out⟩
   | true =>
    obtain ⟨hp, hr⟩ := HP.out trivial trivial rfl
    have HP2 := zaa.mk hp
    have HA := zaa.mk (zgc A0 c0 t H K R w3 (hp.below HB.out) hr)
    clear hp hr HP
    go_wp2_with fail
    refine HA.out.mono ?_
    rintro e w4 ⟨rfl, ⟨cs, hM⟩, hb⟩
    replace HB := zaa.mk (HB.out.trans (hb.mono HB.out.size))
    have HG := zaa.mk (zdV A0 c0 t w3.heap.size R cs s u w4 (HP2.out.below HB.out).tab HP2.out.le hM)
    clear hb hM HA
    go_wp2_with fail
    refine HG.out.mono ?_
    rintro e w5 ⟨rfl, hb⟩
    replace HB := zaa.mk (HB.out.trans (hb.mono HB.out.size))
    clear hb HG
    go_wp2_with fail
    go_ret
    exact ⟨rfl, HB.out⟩
end Go.Proofs.YtfhgmebhdchegaaDoorTab
end

section
namespace Go.Proofs.YtfhgmebhdchegaaDoor.PAll
open Go.RowKit Go.Proofs.YtfhgmebhdchegaaDoorW.zai Go.Proofs.YtfhgmebhdchegaaDoorW.zas Go.Proofs.YtfhgmebhdchegaaDoorW.za5
attribute [local go_sem] zbg zbh zbt zbs za7 za8 zbf zbi
theorem eqA30 (d : Nat) (w : World) (x0 y0 : Int) (x1 y1 : Int) :
  (Op.equalIn (d + 2) 30 (.agg #[.int .i64 x0, .int .i64 x1]) (.agg #[.int .i64 y0, .int .i64 y1])).run Tryd.prog w = .ok (x0 == y0 && (x1 == y1)) w := by
 refine zgX Tryd.underlying30 k9 ?_
 refine zfn (by rfl) (by go_simp; rfl) (by go_simp; rfl) q9 ?_
 exact zfa (by rfl) (by go_simp; rfl) (by go_simp; rfl) q9
open Go.Proofs.YtfhgmebhdchegaaDoorTab in
def zbU.f (l0 : List (S43)) (a1 : ByteArray) : Option (List (S48)) := if l0.length < 4398046511104 ∧ (zbH l0 a1).length < 4398046511104 then some (zbH l0 a1) else none
open Go.Proofs.YtfhgmebhdchegaaDoorTab in
theorem zbU.calls (A0 : Option Addr) (c0 : Nat) (l0 : List (S43)) (a1 : ByteArray) (r : List (S48)) (w : World) (hr0 : Kd.C k43 w A0 l0.length l0) (hc0 : l0.length ≤ c0) (h : zbU.f l0 a1 = some r) :
  Calls Tryd.prog 35 #[.slice A0 l0.length c0, .string a1] w fun e w' => ∃ v0_ : Value, e = .returned (v0_) ∧ Kd.R k48 48 w' w.heap.size (fun _ => True) v0_ r ∧ Below w.heap.size w w' := by
 unfold zbU.f at h
 by_cases hl : l0.length < 4398046511104 ∧ (zbH l0 a1).length < 4398046511104
 ·
  rw [if_pos hl] at h
  obtain rfl := Option.some.inj h
  exact zcC A0 c0 l0 a1 w hr0 hl.1 hl.2
 ·
  rw [if_neg hl] at h; cases h
def zaO.small (l0 : List (S43)) : Bool := decide (l0.length < 4398046511104) && l0.all fun x => decide (x.f3.length < 4398046511104) && x.f3.all fun m => decide (m.f1.length < 4398046511104)
open Go.Proofs.YtfhgmebhdchegaaDoorTab in
theorem zaO.zd8 {l0 : List (S43)} (h : zaO.small l0 = true) : Small l0 := by
 unfold zaO.small at h
 simp only [Bool.and_eq_true, decide_eq_true_eq, List.all_eq_true] at h
 have hm : ∀ p, p < l0.length → clsAt l0 p ∈ l0 := fun p hp => by
  unfold clsAt zbF
  rw [Int.toNat_natCast, List.getD_eq_getElem?_getD, List.getElem?_eq_getElem hp]
  exact List.getElem_mem hp
 exact ⟨h.1, fun p hp => (h.2 _ (hm p hp)).1, fun p hp m hm' => (h.2 _ (hm p hp)).2 m hm'⟩
open Go.Proofs.YtfhgmebhdchegaaDoorTab in
def zaO.all (l0 : List (S43)) (a1 : ByteArray) : Nat := ((lineL l0 a1).reverse.flatMap fun p => (clsAt l0 p).f3).length
open Go.Proofs.YtfhgmebhdchegaaDoorTab in
def zaO.f (l0 : List (S43)) (a1 : ByteArray) : Option (List (S51)) := if zaO.small l0 = true ∧ zaO.all l0 a1 < 2199023255552 then some (zcZ l0 a1) else none
open Go.Proofs.YtfhgmebhdchegaaDoorTab in
theorem zaO.calls (A0 : Option Addr) (c0 : Nat) (l0 : List (S43)) (a1 : ByteArray) (r : List (S51)) (w : World) (hr0 : Kd.C k43 w A0 l0.length l0) (hc0 : l0.length ≤ c0) (h : zaO.f l0 a1 = some r) :
  Calls Tryd.prog 36 #[.slice A0 l0.length c0, .string a1] w fun e w' => ∃ v0_ : Value, e = .returned (v0_) ∧ Kd.S k51 51 w' w.heap.size (fun _ => True) v0_ r ∧ Below w.heap.size w w' := by
 unfold zaO.f at h
 by_cases hl : zaO.small l0 = true ∧ zaO.all l0 a1 < 2199023255552
 ·
  rw [if_pos hl] at h
  obtain rfl := Option.some.inj h
  exact zc7 A0 c0 l0 a1 w hr0 (zaO.zd8 hl.1) hl.2
 ·
  rw [if_neg hl] at h; cases h
mutual
def zal.l0 : Nat → List (S43) → ByteArray → List (S84) → List (S48) → Int → Int → Option ((List (S84)))
 | 0, _, _, _, _, _, _ => none
 | k + 1, x0, x1, x4, x11, x12, x13 => if x13 < x12 then (if 0 ≤ x13 then (if x13 < (x11.length : Int) then (if x4.length < 5864062014805 then (zal.l0 k x0 x1 (x4 ++ [(⟨(za1 x11 x13).f0, (-1)⟩ : S84)]) x11 x12 (wrap64 (x13 + 1))) else (none)) else (none)) else (none)) else ((zaO.f x0 x1).bind fun t170 => (zal.l1 k x4 t170 (t170.length : Int) 0))
def zal.l1 : Nat → List (S84) → List (S51) → Int → Int → Option ((List (S84)))
 | 0, _, _, _, _ => none
 | k + 1, x4, x26, x27, x28 => if x28 < x27 then (if 0 ≤ x28 then (if x28 < (x26.length : Int) then (if x4.length < 5864062014805 then (zal.l1 k (x4 ++ [(⟨(zaQ x26 x28).f0, (((zaQ x26 x28).f1).length : Int)⟩ : S84)]) x26 x27 (wrap64 (x28 + 1))) else (none)) else (none)) else (none)) else (some x4)
end
def zal.f (k : Nat) (l0 : List (S43)) (a1 : ByteArray) : Option ((List (S84))) := (zbU.f l0 a1).bind fun t162 => (zal.l0 k l0 a1 ([] : List (S84)) t162 (t162.length : Int) 0)
theorem zal.zcF : ∀ k, (∀ y0 y1 y2 y3 y4 y5, LeO (zal.l0 k y0 y1 y2 y3 y4 y5) (zal.l0 (k + 1) y0 y1 y2 y3 y4 y5)) ∧ (∀ y0 y1 y2 y3, LeO (zal.l1 k y0 y1 y2 y3) (zal.l1 (k + 1) y0 y1 y2 y3))
 | 0 => ⟨fun _ _ _ _ _ _ r h => by simp [zal.l0] at h, fun _ _ _ _ r h => by simp [zal.l1] at h⟩
 | k + 1 => by
  obtain ⟨ih0, ih1⟩ := zal.zcF k
  refine ⟨?_, ?_⟩
  ·
   intro y0 y1 y2 y3 y4 y5
   unfold zal.l0
   repeat' first
   | (with_reducible exact ih0 _ _ _ _ _ _)
   | (with_reducible exact ih1 _ _ _ _)
   | (with_reducible exact LeO.refl _)
   | (with_reducible exact LeO.none _)
   | (with_reducible refine LeO.ite ?_ ?_)
   | (with_reducible refine LeO.bind ?_ (fun _ => ?_))
   | exact ih0 _ _ _ _ _ _
   | exact ih1 _ _ _ _
   | exact LeO.none _
   | refine LeO.ite ?_ ?_
   | refine LeO.bind ?_ (fun _ => ?_)
  ·
   intro y0 y1 y2 y3
   unfold zal.l1
   repeat' first
   | (with_reducible exact ih0 _ _ _ _ _ _)
   | (with_reducible exact ih1 _ _ _ _)
   | (with_reducible exact LeO.refl _)
   | (with_reducible exact LeO.none _)
   | (with_reducible refine LeO.ite ?_ ?_)
   | (with_reducible refine LeO.bind ?_ (fun _ => ?_))
   | exact ih0 _ _ _ _ _ _
   | exact ih1 _ _ _ _
   | exact LeO.none _
   | refine LeO.ite ?_ ?_
   | refine LeO.bind ?_ (fun _ => ?_)
theorem zal.mono : ∀ a0 a1 k, LeO (zal.f k a0 a1) (zal.f (k + 1) a0 a1) := by
 intro a0 a1 k
 obtain ⟨ih0, ih1⟩ := zal.zcF k
 unfold zal.f
 repeat' first
   | (with_reducible exact ih0 _ _ _ _ _ _)
   | (with_reducible exact ih1 _ _ _ _)
   | (with_reducible exact LeO.refl _)
   | (with_reducible exact LeO.none _)
   | (with_reducible refine LeO.ite ?_ ?_)
   | (with_reducible refine LeO.bind ?_ (fun _ => ?_))
   | exact ih0 _ _ _ _ _ _
   | exact ih1 _ _ _ _
   | exact LeO.none _
   | refine LeO.ite ?_ ?_
   | refine LeO.bind ?_ (fun _ => ?_)
theorem zal.calls (k : Nat) (A0 : Option Addr) (c0 : Nat) (l0 : List (S43)) (a1 : ByteArray) (r : List (S84)) (w : World) (hr0 : Kd.C k43 w A0 l0.length l0) (hc0 : l0.length ≤ c0) (h : zal.f k l0 a1 = some r) :
  Calls Tryd.prog 41 #[.slice A0 l0.length c0, .string a1] w fun e w' => ∃ v0_ : Value, e = .returned (v0_) ∧ Kd.R k84 84 w' w.heap.size (fun _ => True) v0_ r ∧ Below w.heap.size w w' := by
 have hu48 := Tryd.underlying48
 have hu84 := Tryd.underlying84
 have hu51 := Tryd.underlying51
 have HR0 := zaa.mk hr0
 have HC0 := zaa.mk hc0
 clear hr0 hc0
 have HB := zaa.mk (Below.refl w.heap.size w)
 have H : ((zbU.f l0 a1).bind fun t162 => (zal.l0 k l0 a1 ([] : List (S84)) t162 (t162.length : Int) 0)) = some r := h
 clear h
 replace H := Option.bind_eq_some_iff.mp H
 obtain ⟨t162, A30, H⟩ := H
 replace H : (zal.l0 k l0 a1 ([] : List (S84)) t162 (t162.length : Int) 0) = some r := H
 have A3 := zaa.mk A30
 clear A30
 have H' := zaa.mk H
 clear H
 go_enter Tryd.func41, Tryd.ntmps41
 go_wp2_with (first | ((with_reducible refine zaA (f := 35) rfl ?_); refine zbn (some 11) rfl rfl Tryd.func35 k9 rfl #[.slice A0 l0.length c0, .string a1] rfl m9 ?_; (with_reducible refine (zbU.calls _ _ l0 a1 t162 _ ?side1 ?side2 A3.out).mono ?_); (case side1 => repeat (first | exact HR0.out | (with_reducible refine Kd.zbe ?_ _) | (with_reducible refine Kd.zbj ?_ _) | (with_reducible refine Kd.zbz ?_))); (case side2 => exact HC0.out); rintro e w4 ⟨v163, rfl, ho0, hb⟩; refine ⟨_, rfl, ?_⟩; have n0_ := zaa.mk (Kd.zbm ho0 (zaq (by repeat (first | (with_reducible first | exact HB.out | apply zad | apply zab | apply zae) | exact HB.out)))); have n1_ := zaa.mk (zaj (by repeat (first | (with_reducible first | exact HB.out | apply zad | apply zab | apply zae) | exact HB.out)) hb); clear HB; have HO164 := n0_; have HB := n1_; clear n0_ n1_; (try clear hb); (try clear hb2); (try clear hk); (try clear hi); (try clear ho0); obtain ⟨Ao5, co5, eo5⟩ := Kd.zaR HO164.out; subst eo5))
 go_loopg [4, 13] k (fun kq v4 v13 w' => ∃ (x4_1 : List (S84)) (x13_1 : Int), v13 = .int .i64 x13_1 ∧ zaa (zal.l0 kq l0 a1 x4_1 t162 (t162.length : Int) x13_1 = some r) ∧ zaa (kq ≤ k) ∧ zaa (Kd.R k84 84 w' w.heap.size (fun _ => True) v4 x4_1) ∧ zaa (Kd.R k48 48 w' w.heap.size (fun _ => True) (.slice Ao5 t162.length co5) t162) ∧ zaa (Below w.heap.size w w'))
 case atStart => exact ⟨(([] : List (S84))), (0), (by first | rfl | (simp; done) | (simp [*]; done)), H', ⟨Nat.le_refl _⟩, ⟨by first | exact Kd.R_nil _ _ _ _ _ | exact Kd.N_nil _ _ _ _ _ | exact Kd.V_nil _ _ _ _ _ | exact Kd.Q_nil _ _ _ _ _ | exact Kd.S_nil _ _ _ _ _⟩, ⟨by (with_reducible repeat (first | apply Kd.zaH | apply Kd.zaN | apply Kd.zaX)); exact HO164.out⟩, ⟨by repeat (first | (with_reducible first | exact HB.out | apply zad | apply zab | apply zae) | exact HB.out)⟩⟩
 case round =>
  clear H'
  try clear p2
  try clear c3
  try clear c4
  obtain ⟨x4_1, x13_1, rfl, HA, HK1, HO_4, HO_11, HB⟩ := hrel
  cases gk with
  | zero => exact absurd HA.out (by simp [zal.l0])
  | succ k1 =>
   have H := HA.out
   clear HA
   simp only [zal.l0] at H
   by_cases c6 : x13_1 < (t162.length : Int)
   ·
    rw [if_pos c6] at H
    have c6b0 : decide (x13_1 < (t162.length : Int)) = true := decide_eq_true c6
    clear c6
    by_cases c7 : 0 ≤ x13_1
    ·
     rw [if_pos c7] at H
     have c7b0 : decide (0 ≤ x13_1) = true := decide_eq_true c7
     clear c7
     by_cases c8 : x13_1 < (t162.length : Int)
     ·
      rw [if_pos c8] at H
      have c8b0 : decide (x13_1 < (t162.length : Int)) = true := decide_eq_true c8
      clear c8
      by_cases c9 : x4_1.length < 5864062014805
      ·
       rw [if_pos c9] at H
       have LMc9 := zaa.mk c9
       clear c9
       obtain ⟨y167, hy167⟩ : ∃ y_ : List (S84), y_ = (x4_1 ++ [(⟨(za1 t162 x13_1).f0, (-1)⟩ : S84)]) := ⟨_, rfl⟩
       replace H : (zal.l0 k1 l0 a1 y167 t162 (t162.length : Int) (wrap64 (x13_1 + 1))) = some r := by first | (rw [hy167]; with_reducible exact H) | (have H2_ := (Option.bind_some _ _).symm.trans H; rw [hy167]; with_reducible exact H2_) | (have H2_ := (Option.bind_some _ _).symm.trans H; with_reducible exact H2_) | with_reducible exact H | (rw [hy167]; exact H) | exact H
       have Ny167 := zaa.mk hy167
       clear hy167
       have H' := zaa.mk H
       clear H
       have p165 : 0 ≤ (x13_1 : Int) := of_decide_eq_true (by first | (with_reducible assumption) | assumption)
       have q165 : x13_1 < (t162.length : Int) := of_decide_eq_true (by first | (with_reducible assumption) | assumption)
       obtain ⟨ad165, e165, hx165_0, hx165_1⟩ := zcM (Kd.zaU HO_11.out).2.2 x13_1 p165 q165
       cases e165
       replace p165 := eq_true p165
       replace q165 := eq_true q165
       go_wp2_with (first | ((with_reducible refine za6 (N := 6) rfl ?_); refine zbE ?hg (N := 6) ?hd (cs := #[.string (⟨#[]⟩ : ByteArray), .string (⟨#[]⟩ : ByteArray)]) (t := 48) ?hr ?_; (case hd => rfl); (case hg => rfl); (case hr => first | (go_simp; done) | (go_simp; rfl)); intro gb166 hg w10 hbox hb; have n0_ := zaa.mk (Kd.zaY (by (with_reducible repeat (first | apply Kd.zaH | apply Kd.zaN | apply Kd.zaX)); exact HO_4.out) hb); have n1_ := zaa.mk (Kd.zaY (Kd.zc1 (by (with_reducible repeat (first | apply Kd.zaH | apply Kd.zaN | apply Kd.zaX)); exact HO_11.out) gb166 (Nat.le_of_eq hg.symm)) hb); have n2_ := zaa.mk (zaj (by repeat (first | (with_reducible first | exact HB.out | apply zad | apply zab | apply zae) | exact HB.out)) hb); have n3_ := zaa.mk (hbox); have n4_ := zaa.mk ((by rw [hg]; exact (zaq (by repeat (first | (with_reducible first | exact HB.out | apply zad | apply zab | apply zae) | exact HB.out))) : w.heap.size ≤ gb166)); have n5_ := zaa.mk ((by rw [hg]; exact (zaq (by repeat (first | (with_reducible first | exact HB.out | apply zad | apply zab | apply zae) | exact HB.out))) : w.heap.size ≤ gb166)); clear HO_4; clear HO_11; clear HB; have HO_4 := n0_; have HO_11 := n1_; have HB := n2_; have BK166 := n3_; have GW166 := n4_; have GE166 := n5_; clear n0_ n1_ n2_ n3_ n4_ n5_; clear hb hbox hg; have hcz11_0 : w10.cell? ⟨gb166, 0, none⟩ = some (.string (⟨#[]⟩ : ByteArray)) := (zaZ BK166.out 0).trans rfl; have hcz11_1 : w10.cell? ⟨gb166, 1, none⟩ = some (.string (⟨#[]⟩ : ByteArray)) := (zaZ BK166.out 1).trans rfl; have hfz11_0 := zaJ BK166.out 0; have hfz11_1 := zaJ BK166.out 1) | ((with_reducible refine zcx (b := .append) (xs := #[.tmp 17, .tmp 21]) rfl ?_); at_builtin; refine Kd.zea k84 (w0 := w) w.heap.size rfl (.tmp 17) (.tmp 21) 81 84 (.agg #[(.string ⟨#[]⟩), (.int .i64 0)]) 24 rfl Tryd.underlying81 zgU rfl d9 o9 u4 x4_1 (⟨(za1 t162 x13_1).f0, (-1)⟩ : S84) [.string ((za1 t162 x13_1).f0), .int .i64 (-1)] (fun _ => True) (fun _ => False) rfl (by first | (go_simp; done) | (go_simp; rfl)) ?aP (fun _ hk => hk.elim) ?aF ?aO ?aB ?aS ?aL ?_; (case aP => exact zgp _ _ _ (⟨(za1 t162 x13_1).f0, (-1)⟩ : S84)); (case aB => exact (by repeat (first | (with_reducible first | exact HB.out | apply zad | apply zab | apply zae | refine zau ?_ GE166.out) | exact HB.out))); (case aF => exact (fun _ _ => trivial)); (case aO => exact (by (with_reducible repeat (first | apply Kd.zaH | apply Kd.zaN | apply Kd.zaX)); exact Kd.zaz (Kd.R_far (p := ⟨gb166, 1, none⟩) (Kd.R_far (p := ⟨gb166, 0, none⟩) (Kd.zct HO_4.out BK166.out d9) (fun _ hk => hk.2) (.string ((za1 t162 x13_1).f0))) (fun _ hk => hk.2) (.string ((za1 t162 x13_1).f1))) (fun _ hk => trivial))); (case aS => exact (zaq (by repeat (first | (with_reducible first | exact HB.out | apply zad | apply zab | apply zae | refine zau ?_ GE166.out) | exact HB.out)))); (case aL => have := LMc9.out; omega); intro v168 w12 ho hb hg hat; rw [← Ny167.out] at ho; have n0_ := zaa.mk (Kd.zeM (by (with_reducible repeat (first | apply Kd.zaH | apply Kd.zaN | apply Kd.zaX)); exact (Kd.zaz (Kd.R_far (p := ⟨gb166, 1, none⟩) (Kd.R_far (p := ⟨gb166, 0, none⟩) (Kd.zaz HO_11.out (fun k_ hk => (⟨hk, hk.2⟩ : _ ∧ k_ ≠ gb166))) (fun _ hk => hk.2) (.string ((za1 t162 x13_1).f0))) (fun _ hk => hk.2) (.string ((za1 t162 x13_1).f1))) (fun _ h_ => h_.1))) (Kd.zdh (by (with_reducible repeat (first | apply Kd.zaH | apply Kd.zaN | apply Kd.zaX)); exact (Kd.zaz (Kd.R_far (p := ⟨gb166, 1, none⟩) (Kd.R_far (p := ⟨gb166, 0, none⟩) (Kd.zct HO_4.out BK166.out d9) (fun _ hk => hk.2) (.string ((za1 t162 x13_1).f0))) (fun _ hk => hk.2) (.string ((za1 t162 x13_1).f1))) (fun _ h_ => h_.1)))) d9 hg); have n1_ := zaa.mk (zeI (g := gb166) (o := .cells #[.string ((za1 t162 x13_1).f0), .string ((za1 t162 x13_1).f1)] 48 (0, 0)) (by (with_reducible repeat (first | refine zaD ?_ _ | refine zaL ?_ | refine zaE ?_ _)); refine zaK (cs := #[.string ((za1 t162 x13_1).f0), .string (⟨#[]⟩ : ByteArray)]) ?_ 1 _ rfl; (with_reducible repeat (first | refine zaD ?_ _ | refine zaL ?_ | refine zaE ?_ _)); refine zaK (cs := #[.string (⟨#[]⟩ : ByteArray), .string (⟨#[]⟩ : ByteArray)]) ?_ 0 _ rfl; (with_reducible repeat (first | refine zaD ?_ _ | refine zaL ?_ | refine zaE ?_ _)); exact BK166.out) hg (Kd.R_ne HO_4.out BK166.out d9)); have n2_ := zaa.mk (hb); have n3_ := zaa.mk (ho); clear HO_11; clear BK166; clear HB; clear HO_4; have HO_11 := n0_; have BK166 := n1_; have HB := n2_; have HO169 := n3_; clear n0_ n1_ n2_ n3_; clear ho hb hg hat))
       go_roundg k1
       case measure => have := HK1.out; omega
       case rel => exact ⟨(y167), (wrap64 (x13_1 + 1)), (by first | rfl | (simp; done) | (simp [*]; done)), H', ⟨by have := HK1.out; omega⟩, ⟨by (with_reducible repeat (first | apply Kd.zaH | apply Kd.zaN | apply Kd.zaX)); exact HO169.out⟩, ⟨by (with_reducible repeat (first | apply Kd.zaH | apply Kd.zaN | apply Kd.zaX)); exact Kd.zaz HO_11.out (fun _ hk => trivial)⟩, ⟨by repeat (first | (with_reducible first | exact HB.out | apply zad | apply zab | apply zae | refine zau ?_ GE166.out) | exact HB.out)⟩⟩
      ·
       rw [if_neg c9] at H
       exact absurd H s9
     ·
      rw [if_neg c8] at H
      exact absurd H s9
    ·
     rw [if_neg c7] at H
     exact absurd H s9
   ·
    rw [if_neg c6] at H
    have c6b0 : decide (x13_1 < (t162.length : Int)) = false := decide_eq_false c6
    clear c6
    replace H := Option.bind_eq_some_iff.mp H
    obtain ⟨t170, A130, H⟩ := H
    replace H : (zal.l1 k1 x4_1 t170 (t170.length : Int) 0) = some r := H
    have A13 := zaa.mk A130
    clear A130
    have H' := zaa.mk H
    clear H
    go_wp2_with (first | ((with_reducible refine zaA (f := 36) rfl ?_); refine zbn (some 26) rfl rfl Tryd.func36 k9 rfl #[.slice A0 l0.length c0, .string a1] rfl m9 ?_; (with_reducible refine (zaO.calls _ _ l0 a1 t170 _ ?side1 ?side2 A13.out).mono ?_); (case side1 => repeat (first | exact (Kd.zay HR0.out HB.out) | (with_reducible refine Kd.zbe ?_ _) | (with_reducible refine Kd.zbj ?_ _) | (with_reducible refine Kd.zbz ?_))); (case side2 => exact HC0.out); rintro e w14 ⟨v171, rfl, ho0, hb⟩; refine ⟨_, rfl, ?_⟩; have n0_ := zaa.mk (Kd.zaY (by (with_reducible repeat (first | apply Kd.zaH | apply Kd.zaN | apply Kd.zaX)); exact HO_4.out) hb); have n1_ := zaa.mk (Kd.zaY (by (with_reducible repeat (first | apply Kd.zaH | apply Kd.zaN | apply Kd.zaX)); exact HO_11.out) hb); have n2_ := zaa.mk (Kd.zfW (Kd.zhv ho0 (Kd.R_lt (by (with_reducible repeat (first | apply Kd.zaH | apply Kd.zaN | apply Kd.zaX)); exact HO_11.out))) (zaq (by repeat (first | (with_reducible first | exact HB.out | apply zad | apply zab | apply zae) | exact HB.out)))); have n3_ := zaa.mk (zaj (by repeat (first | (with_reducible first | exact HB.out | apply zad | apply zab | apply zae) | exact HB.out)) hb); clear HO_4; clear HO_11; clear HB; have HO_4 := n0_; have HO_11 := n1_; have HO172 := n2_; have HB := n3_; clear n0_ n1_ n2_ n3_; (try clear hb); (try clear hb2); (try clear hk); (try clear hi); (try clear ho0); obtain ⟨Ao15, co15, eo15⟩ := Kd.zgn HO172.out; subst eo15))
    go_loopg [4, 28] k1 (fun kq v4 v28 w' => ∃ (x4_2 : List (S84)) (x28_2 : Int), v28 = .int .i64 x28_2 ∧ zaa (zal.l1 kq x4_2 t170 (t170.length : Int) x28_2 = some r) ∧ zaa (kq ≤ k1) ∧ zaa (Kd.R k84 84 w' w.heap.size (fun _ => True) v4 x4_2) ∧ zaa (Kd.S k51 51 w' w.heap.size (fun _ => True) (.slice Ao15 t170.length co15) t170) ∧ zaa (Below w.heap.size w w'))
    case atStart => exact ⟨(x4_1), (0), (by first | rfl | (simp; done) | (simp [*]; done)), H', ⟨Nat.le_refl _⟩, ⟨by (with_reducible repeat (first | apply Kd.zaH | apply Kd.zaN | apply Kd.zaX)); exact HO_4.out⟩, ⟨by (with_reducible repeat (first | apply Kd.zei | apply Kd.zd6 | apply Kd.zfm)); exact Kd.zdE HO172.out (fun _ hk => trivial)⟩, ⟨by repeat (first | (with_reducible first | exact HB.out | apply zad | apply zab | apply zae) | exact HB.out)⟩⟩
    case round =>
     clear H'
     try clear p1
     try clear q1
     try clear hx1
     try clear p2
     try clear c3
     try clear c4
     try clear c6
     try clear c6b0
     try clear p6
     try clear c7
     try clear c7b0
     try clear c8
     try clear c8b0
     try clear c9
     try clear hcz11_0
     try clear hcz11_1
     try clear hfz11_0
     try clear hfz11_1
     try clear hx165_0
     try clear hx165_1
     try clear p165
     try clear p2
     try clear q165
     obtain ⟨x4_2, x28_2, rfl, HA, HK2, HO_4, HO_26, HB⟩ := hrel
     cases gk with
     | zero => exact absurd HA.out (by simp [zal.l1])
     | succ k2 =>
      have H := HA.out
      clear HA
      simp only [zal.l1] at H
      by_cases c16 : x28_2 < (t170.length : Int)
      ·
       rw [if_pos c16] at H
       have c16b0 : decide (x28_2 < (t170.length : Int)) = true := decide_eq_true c16
       clear c16
       by_cases c17 : 0 ≤ x28_2
       ·
        rw [if_pos c17] at H
        have c17b0 : decide (0 ≤ x28_2) = true := decide_eq_true c17
        clear c17
        by_cases c18 : x28_2 < (t170.length : Int)
        ·
         rw [if_pos c18] at H
         have c18b0 : decide (x28_2 < (t170.length : Int)) = true := decide_eq_true c18
         clear c18
         by_cases c19 : x4_2.length < 5864062014805
         ·
          rw [if_pos c19] at H
          have LMc19 := zaa.mk c19
          clear c19
          obtain ⟨y175, hy175⟩ : ∃ y_ : List (S84), y_ = (x4_2 ++ [(⟨(zaQ t170 x28_2).f0, (((zaQ t170 x28_2).f1).length : Int)⟩ : S84)]) := ⟨_, rfl⟩
          replace H : (zal.l1 k2 y175 t170 (t170.length : Int) (wrap64 (x28_2 + 1))) = some r := by first | (rw [hy175]; with_reducible exact H) | (have H2_ := (Option.bind_some _ _).symm.trans H; rw [hy175]; with_reducible exact H2_) | (have H2_ := (Option.bind_some _ _).symm.trans H; with_reducible exact H2_) | with_reducible exact H | (rw [hy175]; exact H) | exact H
          have Ny175 := zaa.mk hy175
          clear hy175
          have H' := zaa.mk H
          clear H
          have p173 : 0 ≤ (x28_2 : Int) := of_decide_eq_true (by first | (with_reducible assumption) | assumption)
          have q173 : x28_2 < (t170.length : Int) := of_decide_eq_true (by first | (with_reducible assumption) | assumption)
          obtain ⟨ad173, A173_1, c173_1, e173, hx173_0, hx173_1, hx173_2, hl173_1, hi173_1⟩ := zdF (Kd.ze7 HO_26.out).2.2 x28_2 p173 q173
          cases e173
          obtain ⟨ce173, hce173, hMe173, hcc173⟩ := Kd.S_get HO_26.out z51 x28_2 p173 (by first | exact q173 | exact of_decide_eq_true (by first | (with_reducible assumption) | assumption) | (have e_ := (Kd.ze7 HO_26.out).1; omega))
          obtain ⟨ve173_1, rfl, ge173_1⟩ := zeu hMe173
          have hv173_1 := hcc173 1 _ rfl
          rw [zbO _ _ 1 o9] at hv173_1
          replace hv173_1 := Option.some.inj (hv173_1.symm.trans hx173_1)
          rw [hv173_1] at ge173_1
          have HL173_1 := zaa.mk (show Kd.R k48 48 _ _ _ _ ((zaQ t170 x28_2).f1) from ge173_1)
          clear hv173_1 ge173_1
          clear hcc173 hce173
          have HR173_1 := zaa.mk hi173_1
          have HC173_1 := zaa.mk hl173_1
          clear hi173_1 hl173_1
          replace p173 := eq_true p173
          replace q173 := eq_true q173
          go_wp2_with (first | ((with_reducible refine za6 (N := 8) rfl ?_); refine zbE ?hg (N := 8) ?hd (cs := #[.string (⟨#[]⟩ : ByteArray), .slice none 0 0, .string (⟨#[]⟩ : ByteArray)]) (t := 51) ?hr ?_; (case hd => rfl); (case hg => rfl); (case hr => first | (go_simp; done) | (go_simp; rfl)); intro gb174 hg w20 hbox hb; have n0_ := zaa.mk (Kd.zaY (by (with_reducible repeat (first | apply Kd.zaH | apply Kd.zaN | apply Kd.zaX)); exact HO_4.out) hb); have n1_ := zaa.mk (Kd.zec (Kd.zgv (by (with_reducible repeat (first | apply Kd.zei | apply Kd.zd6 | apply Kd.zfm)); exact HO_26.out) gb174 (Nat.le_of_eq hg.symm)) hb); have n2_ := zaa.mk (Kd.zaY (by (with_reducible repeat (first | apply Kd.zaH | apply Kd.zaN | apply Kd.zaX)); exact HL173_1.out) hb); have n3_ := zaa.mk (Kd.zay (by repeat (first | (with_reducible exact HR173_1.out) | (with_reducible refine Kd.zbe ?_ _) | (with_reducible refine Kd.zbj ?_ _) | (with_reducible refine Kd.zbz ?_) | exact HR173_1.out)) hb); have n4_ := zaa.mk (zaj (by repeat (first | (with_reducible first | exact HB.out | apply zad | apply zab | apply zae) | exact HB.out)) hb); have n5_ := zaa.mk (hbox); have n6_ := zaa.mk ((by rw [hg]; exact (zaq (by repeat (first | (with_reducible first | exact HB.out | apply zad | apply zab | apply zae) | exact HB.out))) : w.heap.size ≤ gb174)); have n7_ := zaa.mk ((by rw [hg]; exact (zaq (by repeat (first | (with_reducible first | exact HB.out | apply zad | apply zab | apply zae) | exact HB.out))) : w.heap.size ≤ gb174)); clear HO_4; clear HO_26; clear HL173_1; clear HR173_1; clear HB; have HO_4 := n0_; have HO_26 := n1_; have HL173_1 := n2_; have HR173_1 := n3_; have HB := n4_; have BK174 := n5_; have GW174 := n6_; have GE174 := n7_; clear n0_ n1_ n2_ n3_ n4_ n5_ n6_ n7_; clear hb hbox hg; have hcz21_0 : w20.cell? ⟨gb174, 0, none⟩ = some (.string (⟨#[]⟩ : ByteArray)) := (zaZ BK174.out 0).trans rfl; have hcz21_1 : w20.cell? ⟨gb174, 1, none⟩ = some (.slice none 0 0) := (zaZ BK174.out 1).trans rfl; have hcz21_2 : w20.cell? ⟨gb174, 2, none⟩ = some (.string (⟨#[]⟩ : ByteArray)) := (zaZ BK174.out 2).trans rfl; have hfz21_0 := zaJ BK174.out 0; have hfz21_1 := zaJ BK174.out 1; have hfz21_2 := zaJ BK174.out 2) | ((with_reducible refine zcx (b := .append) (xs := #[.tmp 32, .tmp 39]) rfl ?_); at_builtin; refine Kd.zea k84 (w0 := w) w.heap.size rfl (.tmp 32) (.tmp 39) 81 84 (.agg #[(.string ⟨#[]⟩), (.int .i64 0)]) 24 rfl Tryd.underlying81 zgU rfl d9 o9 u4 x4_2 (⟨(zaQ t170 x28_2).f0, (((zaQ t170 x28_2).f1).length : Int)⟩ : S84) [.string ((zaQ t170 x28_2).f0), .int .i64 (((zaQ t170 x28_2).f1).length : Int)] (fun _ => True) (fun _ => False) rfl (by first | (go_simp; done) | (go_simp; rfl)) ?aP (fun _ hk => hk.elim) ?aF ?aO ?aB ?aS ?aL ?_; (case aP => exact zgp _ _ _ (⟨(zaQ t170 x28_2).f0, (((zaQ t170 x28_2).f1).length : Int)⟩ : S84)); (case aB => exact (by repeat (first | (with_reducible first | exact HB.out | apply zad | apply zab | apply zae | refine zau ?_ GE174.out) | exact HB.out))); (case aF => exact (fun _ _ => trivial)); (case aO => exact (by (with_reducible repeat (first | apply Kd.zaH | apply Kd.zaN | apply Kd.zaX)); exact Kd.zaz (Kd.R_far (p := ⟨gb174, 2, none⟩) (Kd.R_far (p := ⟨gb174, 1, none⟩) (Kd.R_far (p := ⟨gb174, 0, none⟩) (Kd.zct HO_4.out BK174.out d9) (fun _ hk => hk.2) (.string ((zaQ t170 x28_2).f0))) (fun _ hk => hk.2) (.slice A173_1 ((zaQ t170 x28_2).f1).length c173_1)) (fun _ hk => hk.2) (.string ((zaQ t170 x28_2).f2))) (fun _ hk => trivial))); (case aS => exact (zaq (by repeat (first | (with_reducible first | exact HB.out | apply zad | apply zab | apply zae | refine zau ?_ GE174.out) | exact HB.out)))); (case aL => have := LMc19.out; omega); intro v176 w22 ho hb hg hat; rw [← Ny175.out] at ho; have n0_ := zaa.mk (Kd.zhp (by (with_reducible repeat (first | apply Kd.zei | apply Kd.zd6 | apply Kd.zfm)); exact (Kd.zdE (Kd.S_far (p := ⟨gb174, 2, none⟩) (Kd.S_far (p := ⟨gb174, 1, none⟩) (Kd.S_far (p := ⟨gb174, 0, none⟩) (Kd.zdE HO_26.out (fun k_ hk => (⟨hk, hk.2⟩ : _ ∧ k_ ≠ gb174))) (fun _ hk => hk.2) (.string ((zaQ t170 x28_2).f0))) (fun _ hk => hk.2) (.slice A173_1 ((zaQ t170 x28_2).f1).length c173_1)) (fun _ hk => hk.2) (.string ((zaQ t170 x28_2).f2))) (fun _ h_ => h_.1))) (Kd.zdh (by (with_reducible repeat (first | apply Kd.zaH | apply Kd.zaN | apply Kd.zaX)); exact (Kd.zaz (Kd.R_far (p := ⟨gb174, 2, none⟩) (Kd.R_far (p := ⟨gb174, 1, none⟩) (Kd.R_far (p := ⟨gb174, 0, none⟩) (Kd.zct HO_4.out BK174.out d9) (fun _ hk => hk.2) (.string ((zaQ t170 x28_2).f0))) (fun _ hk => hk.2) (.slice A173_1 ((zaQ t170 x28_2).f1).length c173_1)) (fun _ hk => hk.2) (.string ((zaQ t170 x28_2).f2))) (fun _ h_ => h_.1)))) d9 hg); have n1_ := zaa.mk (Kd.zeM (by (with_reducible repeat (first | apply Kd.zaH | apply Kd.zaN | apply Kd.zaX)); exact (Kd.zaz (Kd.R_far (p := ⟨gb174, 2, none⟩) (Kd.R_far (p := ⟨gb174, 1, none⟩) (Kd.R_far (p := ⟨gb174, 0, none⟩) (Kd.zct HL173_1.out BK174.out d9) (fun _ hk => hk.2) (.string ((zaQ t170 x28_2).f0))) (fun _ hk => hk.2) (.slice A173_1 ((zaQ t170 x28_2).f1).length c173_1)) (fun _ hk => hk.2) (.string ((zaQ t170 x28_2).f2))) (fun _ h_ => h_.1))) (Kd.zdh (by (with_reducible repeat (first | apply Kd.zaH | apply Kd.zaN | apply Kd.zaX)); exact (Kd.zaz (Kd.R_far (p := ⟨gb174, 2, none⟩) (Kd.R_far (p := ⟨gb174, 1, none⟩) (Kd.R_far (p := ⟨gb174, 0, none⟩) (Kd.zct HO_4.out BK174.out d9) (fun _ hk => hk.2) (.string ((zaQ t170 x28_2).f0))) (fun _ hk => hk.2) (.slice A173_1 ((zaQ t170 x28_2).f1).length c173_1)) (fun _ hk => hk.2) (.string ((zaQ t170 x28_2).f2))) (fun _ h_ => h_.1)))) d9 hg); have n2_ := zaa.mk (zeI (g := gb174) (o := .cells #[.string ((zaQ t170 x28_2).f0), .slice A173_1 ((zaQ t170 x28_2).f1).length c173_1, .string ((zaQ t170 x28_2).f2)] 51 (0, 0)) (by (with_reducible repeat (first | refine zaD ?_ _ | refine zaL ?_ | refine zaE ?_ _)); refine zaK (cs := #[.string ((zaQ t170 x28_2).f0), .slice A173_1 ((zaQ t170 x28_2).f1).length c173_1, .string (⟨#[]⟩ : ByteArray)]) ?_ 2 _ rfl; (with_reducible repeat (first | refine zaD ?_ _ | refine zaL ?_ | refine zaE ?_ _)); refine zaK (cs := #[.string ((zaQ t170 x28_2).f0), .slice none 0 0, .string (⟨#[]⟩ : ByteArray)]) ?_ 1 _ rfl; (with_reducible repeat (first | refine zaD ?_ _ | refine zaL ?_ | refine zaE ?_ _)); refine zaK (cs := #[.string (⟨#[]⟩ : ByteArray), .slice none 0 0, .string (⟨#[]⟩ : ByteArray)]) ?_ 0 _ rfl; (with_reducible repeat (first | refine zaD ?_ _ | refine zaL ?_ | refine zaE ?_ _)); exact BK174.out) hg (Kd.R_ne HO_4.out BK174.out d9)); have n3_ := zaa.mk (hb); have n4_ := zaa.mk (ho); clear HO_26; clear HL173_1; clear BK174; clear HB; clear HO_4; have HO_26 := n0_; have HL173_1 := n1_; have BK174 := n2_; have HB := n3_; have HO177 := n4_; clear n0_ n1_ n2_ n3_ n4_; clear ho hb hg hat))
          go_roundg k2
          case measure => have := HK1.out; have := HK2.out; omega
          case rel => exact ⟨(y175), (wrap64 (x28_2 + 1)), (by first | rfl | (simp; done) | (simp [*]; done)), H', ⟨by have := HK1.out; have := HK2.out; omega⟩, ⟨by (with_reducible repeat (first | apply Kd.zaH | apply Kd.zaN | apply Kd.zaX)); exact HO177.out⟩, ⟨by (with_reducible repeat (first | apply Kd.zei | apply Kd.zd6 | apply Kd.zfm)); exact Kd.zdE HO_26.out (fun _ hk => trivial)⟩, ⟨by repeat (first | (with_reducible first | exact HB.out | apply zad | apply zab | apply zae | refine zau ?_ GE174.out) | exact HB.out)⟩⟩
         ·
          rw [if_neg c19] at H
          exact absurd H s9
        ·
         rw [if_neg c18] at H
         exact absurd H s9
       ·
        rw [if_neg c17] at H
        exact absurd H s9
      ·
       rw [if_neg c16] at H
       have c16b0 : decide (x28_2 < (t170.length : Int)) = false := decide_eq_false c16
       clear c16
       obtain rfl := Option.some.inj H
       go_wp2
       go_ret
       exact ⟨_, by first | rfl | (simp [zaF, zaG] <;> rfl) | (simp [*, zaF, zaG] <;> rfl), by (with_reducible repeat (first | apply Kd.zaH | apply Kd.zaN | apply Kd.zaX)); exact HO_4.out, by repeat (first | (with_reducible first | exact HB.out | apply zad | apply zab | apply zae) | exact HB.out)⟩
open Go.Proofs.YtfhgmebhdchegaaDoorTab in
def zav.fits (c : S43) : Bool :=
 decide (c.f0.size ≤ 9223372036854775807) && decide (c.f1.size ≤ 9223372036854775807) && decide (c.f2.length < 1000000) && c.f2.all (fun v => decide (v.f0.size ≤ 9223372036854775807) && decide (v.f1.size ≤ 9223372036854775807)) && decide (c.f3.length < 1000000) &&
  c.f3.all fun m => decide (m.f0.size ≤ 9223372036854775807) && decide (m.f2.size ≤ 9223372036854775807) && decide (m.f1.length < 1000000) && m.f1.all fun p => decide (p.f0.size ≤ 9223372036854775807) && decide (p.f1.size ≤ 9223372036854775807)
open Go.Proofs.YtfhgmebhdchegaaDoorTab in
theorem zav.zhl {c : S43} (h : zav.fits c = true) : Fits c := by
 unfold zav.fits at h
 simp only [Bool.and_eq_true, decide_eq_true_eq, List.all_eq_true] at h
 obtain ⟨⟨⟨⟨⟨h0, h1⟩, h2⟩, h3⟩, h4⟩, h5⟩ := h
 exact ⟨h0, h1, h2, h3, h4, fun m hm => ⟨(h5 m hm).1.1.1, (h5 m hm).1.1.2, (h5 m hm).1.2, (h5 m hm).2⟩⟩
def zav.mb (k : Nat) (l0 : List (S43)) (cls : ByteArray) : List (S84) := (zal.f k l0 cls).getD []
open Go.Proofs.YtfhgmebhdchegaaDoorTab in
def zav.ok (k : Nat) (l0 : List (S43)) : Bool := zaO.small l0 && l0.all fun c => zav.fits c && decide ((zbH l0 c.f1).length < 4398046511104) && (zal.f k l0 c.f1).isSome && decide ((zav.mb k l0 c.f1).length < 4398046511104)
open Go.Proofs.YtfhgmebhdchegaaDoorTab in
def zav.f (k : Nat) (l0 : List (S43)) : Option (Int × Int) := if zav.ok k l0 = true then some ((zc8 l0 (zav.mb k l0)).1, ((zc8 l0 (zav.mb k l0)).2 : Int)) else none
open Go.Proofs.YtfhgmebhdchegaaDoorTab in
theorem zav.zhI (l0 : List (S43)) (m1 m2 : ByteArray → List (S84)) (h : ∀ i, i < l0.length → m1 (clsAt l0 i).f1 = m2 (clsAt l0 i).f1) : zc8 l0 m1 = zc8 l0 m2 := by
 have hl : ∀ k i, i < l0.length → lookF l0 m1 k i = lookF l0 m2 k i := fun k i hi => by
  match k with
  | 0 => rfl
  | 1 => rfl
  | k + 2 => show ownF l0 (m1 (clsAt l0 i).f1) i = ownF l0 (m2 (clsAt l0 i).f1) i; rw [h i hi]
 have hs : ∀ k (l : List Nat), (∀ i ∈ l, i < l0.length) → scanL (lookF l0 m1 k) l = scanL (lookF l0 m2 k) l := fun k l => by
  induction l with
  | nil => intro _; rfl
  | cons i r ih => intro hi; unfold scanL; rw [hl k i (hi i List.mem_cons_self), ih (fun j hj => hi j (List.mem_cons_of_mem _ hj))]
 have hr : ∀ ks, zcv l0 m1 ks = zcv l0 m2 ks := fun ks => by
  induction ks with
  | nil => rfl
  | cons k r ih =>
   unfold zcv
   rw [hs k _ (fun i hi => List.mem_range.1 hi), ih]
   cases hc : scanL (lookF l0 m2 k) (List.range l0.length) with
   | none => rfl
   | some i =>
    have : i < l0.length := by
     have key : ∀ l : List Nat, scanL (lookF l0 m2 k) l = some i → i ∈ l := fun l => by
      induction l with
      | nil => intro h; simp [scanL] at h
      | cons j r ih =>
       intro h; unfold scanL at h
       by_cases hj : lookF l0 m2 k j = 0
       ·
        rw [if_pos hj] at h; exact List.mem_cons_of_mem _ (ih h)
       ·
        rw [if_neg hj] at h; cases h; exact List.mem_cons_self
     exact List.mem_range.1 (key _ hc)
    simp only [hl k i this]
 unfold zc8
 rw [hr]
theorem zav.zdv {l0 : List (S43)} {i : Nat} (h : i < l0.length) : Go.Proofs.YtfhgmebhdchegaaDoorTab.clsAt l0 i ∈ l0 := by
 unfold Go.Proofs.YtfhgmebhdchegaaDoorTab.clsAt zbF
 rw [Int.toNat_natCast, List.getD_eq_getElem?_getD, List.getElem?_eq_getElem h]
 exact List.getElem_mem h
open Go.Proofs.YtfhgmebhdchegaaDoorTab in
theorem zav.mono : ∀ l0 k, LeO (zav.f k l0) (zav.f (k + 1) l0) := by
 intro l0 k r h
 unfold zav.f at h ⊢
 by_cases ho : zav.ok k l0 = true
 ·
  rw [if_pos ho] at h
  have hc : ∀ c ∈ l0, zal.f (k + 1) l0 c.f1 = zal.f k l0 c.f1 := fun c hc => by
   unfold zav.ok at ho
   simp only [Bool.and_eq_true, List.all_eq_true] at ho
   obtain ⟨L, hL⟩ := Option.isSome_iff_exists.1 (ho.2 c hc).1.2
   rw [hL]; exact zal.mono l0 c.f1 k L hL
  have ho2 : zav.ok (k + 1) l0 = true := by
   unfold zav.ok at ho ⊢
   simp only [Bool.and_eq_true, List.all_eq_true] at ho ⊢
   refine ⟨ho.1, fun c h => ?_⟩
   have hm : zav.mb (k + 1) l0 c.f1 = zav.mb k l0 c.f1 := by unfold zav.mb; rw [hc c h]
   rw [hc c h, hm]; exact ho.2 c h
  rw [if_pos ho2, zav.zhI l0 (zav.mb (k + 1) l0) (zav.mb k l0) (fun i hi => by unfold zav.mb; rw [hc _ (zav.zdv hi)])]
  exact h
 ·
  rw [if_neg ho] at h; cases h
open Go.Proofs.YtfhgmebhdchegaaDoorTab in
theorem zav.calls (k : Nat) (A0 : Option Addr) (c0 : Nat) (l0 : List (S43)) (r1 : Int) (r2 : Int) (w : World) (hr0 : Kd.C k43 w A0 l0.length l0) (hc0 : l0.length ≤ c0) (h : zav.f k l0 = some (r1, r2)) (hG : GW w := by exact Go.Proofs.YtfhgmebhdchegaaDoorTab.GW.below hG (by repeat (first | (with_reducible first | exact HB.out | apply zad | apply zab | apply zae) | exact HB.out | exact Below.refl _ _))) :
  Calls Tryd.prog 12 #[.slice A0 l0.length c0] w fun e w' => e = .returned (.agg #[.int .i64 r1, .int .i64 r2]) ∧ Below w.heap.size w w' := by
 unfold zav.f at h
 by_cases ho : zav.ok k l0 = true
 ·
  rw [if_pos ho] at h
  cases h
  unfold zav.ok at ho
  simp only [Bool.and_eq_true, List.all_eq_true, decide_eq_true_eq] at ho
  refine ze2 A0 c0 l0 (zav.mb k l0) w hr0 (fun i hi w' hb => ?_) ⟨zaO.zd8 ho.1, fun i hi => zav.zhl (ho.2 _ (zav.zdv hi)).1.1.1, fun i hi => (ho.2 _ (zav.zdv hi)).1.1.2, fun i hi => (ho.2 _ (zav.zdv hi)).2⟩ hG
  obtain ⟨L, hL⟩ := Option.isSome_iff_exists.1 (ho.2 _ (zav.zdv hi)).1.2
  have hm : zav.mb k l0 (clsAt l0 i).f1 = L := by unfold zav.mb; rw [hL]; rfl
  rw [hm]
  exact zal.calls k A0 c0 l0 _ L w' (Kd.zay hr0 hb) hc0 hL
 ·
  rw [if_neg ho] at h; cases h
end Go.Proofs.YtfhgmebhdchegaaDoor.PAll
end

section
namespace Go.Proofs.YtfhgmebhdchegaaDoor.PAll
open Go.RowKit Go.Proofs.YtfhgmebhdchegaaDoorW.zai Go.Proofs.YtfhgmebhdchegaaDoorW.zas Go.Proofs.YtfhgmebhdchegaaDoorW.za5
attribute [local go_sem] zbg zbh zbt zbs za7 za8 zbf zbi
attribute [local go_sem high] eqA30
def zbb.f (k : Nat) (l0 : List (S43)) : Option (Bool) := (zav.f k l0).bind fun bt150 => (some (bt150.1 == 0 && (bt150.2 == 0)))
theorem zbb.mono : ∀ a0 k, LeO (zbb.f k a0) (zbb.f (k + 1) a0) := by
 intro a0 k
 unfold zbb.f
 repeat' first
   | (with_reducible exact zav.mono _ _)
   | (with_reducible exact LeO.refl _)
   | (with_reducible exact LeO.none _)
   | (with_reducible refine LeO.ite ?_ ?_)
   | (with_reducible refine LeO.bind ?_ (fun _ => ?_))
   | exact zav.mono _ _
   | exact LeO.none _
   | refine LeO.ite ?_ ?_
   | refine LeO.bind ?_ (fun _ => ?_)
theorem zbb.calls (k : Nat) (A0 : Option Addr) (c0 : Nat) (l0 : List (S43)) (r : Bool) (w : World) (hr0 : Kd.C k43 w A0 l0.length l0) (hc0 : l0.length ≤ c0) (h : zbb.f k l0 = some r) (hG : Go.Proofs.YtfhgmebhdchegaaDoorTab.GW w := by exact Go.Proofs.YtfhgmebhdchegaaDoorTab.GW.below hG (by repeat (first | (with_reducible first | exact HB.out | apply zad | apply zab | apply zae) | exact HB.out | refine zau ?_ (zaa.out (by assumption)) | exact Below.refl _ _))) :
  Calls Tryd.prog 20 #[.slice A0 l0.length c0] w fun e w' => e = .returned (.bool r) ∧ Below w.heap.size w w' := by
 have hu30 := Tryd.underlying30
 have HR0 := zaa.mk hr0
 have HC0 := zaa.mk hc0
 clear hr0 hc0
 have HB := zaa.mk (Below.refl w.heap.size w)
 have hf_ : ∀ (a b : Int) (w : World), (Instr.field 30 (.agg #[.int .i64 a, .int .i64 b]) 0).run Tryd.prog w = .ok (.int .i64 a) w := fun a b w => by simp [Instr.field, asAgg, part, isAgg, go_sem, run_underlying Tryd.underlying30, run_underlying Tryd.underlying28]
 have H : ((zav.f k l0).bind fun bt150 => (some (bt150.1 == 0 && (bt150.2 == 0)))) = some r := h
 clear h
 replace H := Option.bind_eq_some_iff.mp H
 obtain ⟨⟨t150, t151⟩, A20, H⟩ := H
 replace H : (some (t150 == 0 && (t151 == 0))) = some r := H
 have A2 := zaa.mk A20
 clear A20
 obtain rfl := Option.some.inj H
 go_enter Tryd.func20, Tryd.ntmps20
 go_wp2_with (first | ((with_reducible refine zaA (f := 12) rfl ?_); refine zbn (some 4) rfl rfl Tryd.func12 k9 rfl #[.slice A0 l0.length c0] rfl m9 ?_; (with_reducible refine (zav.calls k _ _ l0 t150 t151 _ ?side1 ?side2 A2.out).mono ?_); (case side1 => repeat (first | exact HR0.out | (with_reducible refine Kd.zbe ?_ _) | (with_reducible refine Kd.zbj ?_ _) | (with_reducible refine Kd.zbz ?_))); (case side2 => exact HC0.out); rintro e w3 ⟨rfl, hb⟩; refine ⟨_, rfl, ?_⟩; have n0_ := zaa.mk (zaj (by repeat (first | (with_reducible first | exact HB.out | apply zad | apply zab | apply zae) | exact HB.out)) hb); clear HB; have HB := n0_; clear n0_; (try clear hb); (try clear hb2); (try clear hk); (try clear hi)))
 go_ret
 exact ⟨by first | rfl | (simp [zaF, zaG] <;> rfl) | (simp [*, zaF, zaG] <;> rfl), by repeat (first | (with_reducible first | exact HB.out | apply zad | apply zab | apply zae) | exact HB.out)⟩
end Go.Proofs.YtfhgmebhdchegaaDoor.PAll
end

section
namespace Go.Proofs.YtfhgmebhdchegaaDoor.PAll
open Go.RowKit Go.Proofs.YtfhgmebhdchegaaDoorW.zai Go.Proofs.YtfhgmebhdchegaaDoorW.zas Go.Proofs.YtfhgmebhdchegaaDoorW.za5
attribute [local go_sem] zbg zbh zbt zbs za7 za8 zbf zbi
open Go.Proofs.YtfhgmebhdchegaaDoorTab in
def za4.f (k : Nat) (l0 : List (S43)) (l1 : List ByteArray) : Option Bool :=
 if l0.length < 1000000 ∧ l1.length < 1000000 then (zav.f k l0).map fun c => (c.1 == 0) && (c.2 == 0) && !(l1.any fun s => !zbW l0 s) else none
open Go.Proofs.YtfhgmebhdchegaaDoorTab in
theorem za4.mono : ∀ l0 l1 k, LeO (za4.f k l0 l1) (za4.f (k + 1) l0 l1) := by
 intro l0 l1 k r h
 unfold za4.f at h ⊢
 by_cases hl : l0.length < 1000000 ∧ l1.length < 1000000
 ·
  rw [if_pos hl] at h ⊢
  obtain ⟨c, hc, rfl⟩ := Option.map_eq_some_iff.1 h
  rw [zav.mono l0 k c hc]; rfl
 ·
  rw [if_neg hl] at h; cases h
open Go.Proofs.YtfhgmebhdchegaaDoorTab in
theorem za4.calls (k : Nat) (A0 : Option Addr) (c0 : Nat) (l0 : List (S43)) (A1 : Option Addr) (c1 : Nat) (l1 : List ByteArray) (r : Bool) (w : World) (hr0 : Kd.C k43 w A0 l0.length l0) (hc0 : l0.length ≤ c0) (hr1 : Kd.C Kd.string w A1 l1.length l1) (hc1 : l1.length ≤ c1) (h : za4.f k l0 l1 = some r) (hG : Go.Proofs.YtfhgmebhdchegaaDoorTab.GW w := by exact Go.Proofs.YtfhgmebhdchegaaDoorTab.GW.below hG (by repeat (first | (with_reducible first | exact HB.out | apply zad | apply zab | apply zae) | exact HB.out | refine zau ?_ (zaa.out (by assumption)) | exact Below.refl _ _))) :
  Calls Tryd.prog 32 #[.slice A0 l0.length c0, .slice A1 l1.length c1] w fun e w' => e = .returned (.bool r) ∧ Below w.heap.size w w' := by
 unfold za4.f at h
 by_cases hl : l0.length < 1000000 ∧ l1.length < 1000000
 ·
  rw [if_pos hl] at h
  obtain ⟨c, hc, rfl⟩ := Option.map_eq_some_iff.1 h
  exact zfP A0 c0 l0 A1 c1 l1 c.1 c.2 w hr0 hl.1 hr1 o9 (fun w' hb => zav.calls k A0 c0 l0 c.1 c.2 w' (Kd.zay hr0 hb) hc0 hc (hG := GW.below hG hb))
 ·
  rw [if_neg hl] at h; cases h
def zaw.idx (s : ByteArray) : List ByteArray → Nat → Int
 | [], _ => -1
 | x :: r, i => if s.toList = x.toList then (i : Int) else zaw.idx s r (i + 1)
def zaw.f (l0 : List ByteArray) (a1 : ByteArray) : Option Int := if l0.length < 4398046511104 then some (zaw.idx a1 l0 0) else none
theorem zaw.zhy (s : ByteArray) (l : List ByteArray) (i : Nat) (h : i < l.length) : zaw.idx s (l.drop i) i = if s.toList = (rdOf ByteArray.empty l (i : Int)).toList then (i : Int) else zaw.idx s (l.drop (i + 1)) (i + 1) := by
 rw [List.drop_eq_getElem_cons h]
 unfold rdOf
 rw [Int.toNat_natCast, List.getD_eq_getElem?_getD, List.getElem?_eq_getElem h]; rfl
theorem zaw.calls (A0 : Option Addr) (c0 : Nat) (l0 : List ByteArray) (a1 : ByteArray) (r : Int) (w : World) (hr0 : Kd.C Kd.string w A0 l0.length l0) (hc0 : l0.length ≤ c0) (h : zaw.f l0 a1 = some r) :
  Calls Tryd.prog 55 #[.slice A0 l0.length c0, .string a1] w fun e w' => e = .returned (.int .i64 r) ∧ zb2 w w' := by
 unfold zaw.f at h
 by_cases hl : l0.length < 4398046511104
 case neg => rw [if_neg hl] at h; cases h
 rw [if_pos hl] at h
 have HH := zaa.mk (Option.some.inj h)
 have HR0 := zaa.mk hr0
 clear hr0 hc0 h
 go_enter Tryd.func55, Tryd.ntmps55
 go_wp2
 go_loop [8] (fun v8 => ∃ i : Nat, i ≤ l0.length ∧ v8 = .int .i64 i ∧ zaa (zaw.idx a1 (l0.drop i) i = r)) (fun v8 => l0.length - (intOf v8).toNat)
 case atStart => exact ⟨0, Nat.zero_le _, rfl, HH⟩
 case round =>
  obtain ⟨i, hi, rfl, HI⟩ := hrel
  by_cases hlt : i < l0.length
  ·
   obtain ⟨ad, hA, x0⟩ := Kd.zdG HR0.out (i : Int) o9 o9
   rw [Int.toNat_natCast] at x0
   have HA := zaw.zhy a1 l0 i hlt
   rw [HI.out] at HA
   obtain ⟨x, hx⟩ : ∃ x, x = rdOf ByteArray.empty l0 (i : Int) := ⟨_, rfl⟩
   rw [← hx] at HA x0
   clear hx
   subst hA
   by_cases he : a1.toList = x.toList
   ·
    rw [if_pos he] at HA
    have hq : (a1.toList == x.toList) = true := by simpa using he
    subst HA
    clear he
    go_wp2
    go_ret
    exact ⟨rfl, zb2.refl _⟩
   ·
    rw [if_neg he] at HA
    have hq : (a1.toList == x.toList) = false := by simpa using he
    have HA2 := zaa.mk HA.symm
    clear he HA
    go_wp2
    go_round
    case rel => exact ⟨i + 1, by omega, by go_num, HA2⟩
    case measure => simp [intOf]; omega
  ·
   have hi2 : i = l0.length := by omega
   have HA := HI.out
   rw [hi2, List.drop_length] at HA
   have HA2 := zaa.mk HA
   clear HA hi2
   go_wp2
   go_ret
   exact ⟨by rw [← HA2.out]; rfl, zb2.refl _⟩
def zaB.f (l0 : List ByteArray) (a1 : ByteArray) : Option (Bool) := (zaw.f l0 a1).bind fun t152 => (some (decide (t152 ≥ 0)))
theorem zaB.calls (A0 : Option Addr) (c0 : Nat) (l0 : List ByteArray) (a1 : ByteArray) (r : Bool) (w : World) (hr0 : Kd.C Kd.string w A0 l0.length l0) (hc0 : l0.length ≤ c0) (h : zaB.f l0 a1 = some r) :
  Calls Tryd.prog 33 #[.slice A0 l0.length c0, .string a1] w fun e w' => e = .returned (.bool r) ∧ zb2 w w' := by
 have HR0 := zaa.mk hr0
 have HC0 := zaa.mk hc0
 clear hr0 hc0
 have H : ((zaw.f l0 a1).bind fun t152 => (some (decide (t152 ≥ 0)))) = some r := h
 clear h
 replace H := Option.bind_eq_some_iff.mp H
 obtain ⟨t152, A30, H⟩ := H
 replace H : (some (decide (t152 ≥ 0))) = some r := H
 have A3 := zaa.mk A30
 clear A30
 obtain rfl := Option.some.inj H
 go_enter Tryd.func33, Tryd.ntmps33
 go_wp2_with (first | ((with_reducible refine zaA (f := 55) rfl ?_); refine zbn (some 7) rfl rfl Tryd.func55 k9 rfl #[.slice A0 l0.length c0, .string a1] rfl m9 ?_; (with_reducible refine (zaw.calls _ _ l0 a1 t152 _ ?side1 ?side2 A3.out).mono ?_); (case side1 => repeat (first | exact HR0.out | (with_reducible refine Kd.zbe ?_ _) | (with_reducible refine Kd.zbj ?_ _) | (with_reducible refine Kd.zbz ?_))); (case side2 => exact HC0.out); rintro e w' ⟨rfl, ⟨nd, rfl⟩⟩; refine ⟨_, rfl, ?_⟩))
 go_ret
 exact ⟨by first | rfl | (simp; done) | (simp [*]; done), by repeat (first | exact zb2.refl _ | apply zb2.step)⟩
open Go.Proofs.YtfhgmebhdchegaaDoorTab in
def zbv.f (l0 : List (S43)) (a1 : ByteArray) : Option (List ByteArray) := if l0.length < 4398046511104 then some (supL l0 a1) else none
open Go.Proofs.YtfhgmebhdchegaaDoorTab in
theorem zbv.calls (A0 : Option Addr) (c0 : Nat) (l0 : List (S43)) (a1 : ByteArray) (r : List ByteArray) (w : World) (hr0 : Kd.C k43 w A0 l0.length l0) (hc0 : l0.length ≤ c0) (h : zbv.f l0 a1 = some r) :
  Calls Tryd.prog 34 #[.slice A0 l0.length c0, .string a1] w fun e w' => ∃ v0_ : Value, e = .returned (v0_) ∧ Kd.R Kd.string 9 w' w.heap.size (fun _ => True) v0_ r ∧ Below w.heap.size w w' := by
 unfold zbv.f at h
 by_cases hl : l0.length < 4398046511104
 ·
  rw [if_pos hl] at h
  cases h
  exact zcy A0 c0 l0 a1 w hr0 hl
 ·
  rw [if_neg hl] at h; cases h
def zbp.f (k : Nat) (l0 : List (S43)) (a1 : ByteArray) (a2 : ByteArray) : Option (Bool) := (za4.f k l0 (([a1, a2] : List ByteArray))).bind fun t156 => (if t156 = true then (if a1.toList = a2.toList then (some true) else ((zbv.f l0 a1).bind fun t157 => ((zaB.f t157 a2).bind fun t160 => (some t160)))) else (some false))
theorem zbp.mono : ∀ a0 a1 a2 k, LeO (zbp.f k a0 a1 a2) (zbp.f (k + 1) a0 a1 a2) := by
 intro a0 a1 a2 k
 unfold zbp.f
 repeat' first
   | (with_reducible exact za4.mono _ _ _)
   | (with_reducible exact LeO.refl _)
   | (with_reducible exact LeO.none _)
   | (with_reducible refine LeO.ite ?_ ?_)
   | (with_reducible refine LeO.bind ?_ (fun _ => ?_))
   | exact za4.mono _ _ _
   | exact LeO.none _
   | refine LeO.ite ?_ ?_
   | refine LeO.bind ?_ (fun _ => ?_)
theorem zbp.calls (k : Nat) (A0 : Option Addr) (c0 : Nat) (l0 : List (S43)) (a1 : ByteArray) (a2 : ByteArray) (r : Bool) (w : World) (hr0 : Kd.C k43 w A0 l0.length l0) (hc0 : l0.length ≤ c0) (h : zbp.f k l0 a1 a2 = some r) (hG : Go.Proofs.YtfhgmebhdchegaaDoorTab.GW w := by exact Go.Proofs.YtfhgmebhdchegaaDoorTab.GW.below hG (by repeat (first | (with_reducible first | exact HB.out | apply zad | apply zab | apply zae) | exact HB.out | refine zau ?_ (zaa.out (by assumption)) | exact Below.refl _ _))) :
  Calls Tryd.prog 16 #[.slice A0 l0.length c0, .string a1, .string a2] w fun e w' => e = .returned (.bool r) ∧ Below w.heap.size w w' := by
 have HR0 := zaa.mk hr0
 have HC0 := zaa.mk hc0
 clear hr0 hc0
 have HB := zaa.mk (Below.refl w.heap.size w)
 have H : ((za4.f k l0 (([a1, a2] : List ByteArray))).bind fun t156 => (if t156 = true then (if a1.toList = a2.toList then (some true) else ((zbv.f l0 a1).bind fun t157 => ((zaB.f t157 a2).bind fun t160 => (some t160)))) else (some false))) = some r := h
 clear h
 obtain ⟨y153, hy153⟩ : ∃ y_ : List ByteArray, y_ = (([a1, a2] : List ByteArray)) := ⟨_, rfl⟩
 replace H : ((za4.f k l0 y153).bind fun t156 => (if t156 = true then (if a1.toList = a2.toList then (some true) else ((zbv.f l0 a1).bind fun t157 => ((zaB.f t157 a2).bind fun t160 => (some t160)))) else (some false))) = some r := by first | (rw [hy153]; with_reducible exact H) | (have H2_ := (Option.bind_some _ _).symm.trans H; rw [hy153]; with_reducible exact H2_) | (have H2_ := (Option.bind_some _ _).symm.trans H; with_reducible exact H2_) | with_reducible exact H | (rw [hy153]; exact H) | exact H
 have Ny153 := zaa.mk hy153
 clear hy153
 replace H := Option.bind_eq_some_iff.mp H
 obtain ⟨t156, A40, H⟩ := H
 replace H : (if t156 = true then (if a1.toList = a2.toList then (some true) else ((zbv.f l0 a1).bind fun t157 => ((zaB.f t157 a2).bind fun t160 => (some t160)))) else (some false)) = some r := H
 have A4 := zaa.mk A40
 clear A40
 by_cases c5 : t156 = true
 ·
  subst c5
  have H1 : (if a1.toList = a2.toList then (some true) else ((zbv.f l0 a1).bind fun t157 => ((zaB.f t157 a2).bind fun t160 => (some t160)))) = some r := by rw [if_pos rfl] at H; exact H
  clear H
  have H := H1
  clear H1
  by_cases c6 : a1.toList = a2.toList
  ·
   rw [if_pos c6] at H
   have c6b0 : (a1.toList == a2.toList) = true := beq_iff_eq.mpr c6
   have c6b1 : (a1.toList != a2.toList) = false := bne_eq_false_iff_eq.mpr c6
   clear c6
   obtain rfl := Option.some.inj H
   go_enter Tryd.func16, Tryd.ntmps16
   go_wp2_with (first | ((with_reducible refine za6 (N := 10) rfl ?_); refine Kd.R_lit Kd.string _ 9 ?hg (N := 10) ?hd (xs := ([a1, a2] : List ByteArray)) (inner := [.string a1, .string a2]) (ok := fun _ => True) (okp := fun _ => True) ?hr ?hp (fun _ hk => hk) trivial (Below.refl _ _) (Nat.le_refl _) s9 ?_; (case hd => rfl); (case hg => rfl); (case hr => first | (go_simp; done) | (go_simp; rfl)); (case hp => exact (Reps.one (show Kd.M Kd.string _ _ _ a1 [.string a1] from rfl) (Reps.one (show Kd.M Kd.string _ _ _ a2 [.string a2] from rfl) (Reps.none _ _)))); intro v154 w7 ho8 hb hg_ hnew_; clear hg_ hnew_; (first | rw [← Ny153.out] at ho8 | (simp only [Int.reduceToNat] at ho8; rw [← Ny153.out] at ho8)); have n0_ := zaa.mk (Kd.zbm ho8 (zaq (by repeat (first | (with_reducible first | exact HB.out | apply zad | apply zab | apply zae) | exact HB.out)))); have n1_ := zaa.mk (zaj (by repeat (first | (with_reducible first | exact HB.out | apply zad | apply zab | apply zae) | exact HB.out)) hb); clear HB; have HO155 := n0_; have HB := n1_; clear n0_ n1_; clear hb ho8; obtain ⟨Ao9, co9, eo9⟩ := Kd.zaR HO155.out; subst eo9) | ((with_reducible refine zaA (f := 32) rfl ?_); refine zbn (some 11) rfl rfl Tryd.func32 k9 rfl #[.slice A0 l0.length c0, .slice Ao9 y153.length co9] rfl m9 ?_; (with_reducible refine (za4.calls k _ _ l0 _ _ y153 true _ ?side1 ?side2 ?side3 ?side4 A4.out).mono ?_); (case side1 => repeat (first | exact (Kd.zay HR0.out HB.out) | (with_reducible refine Kd.zbe ?_ _) | (with_reducible refine Kd.zbj ?_ _) | (with_reducible refine Kd.zbz ?_))); (case side2 => exact HC0.out); (case side3 => repeat (first | exact (Kd.zaU HO155.out).2.2 | (with_reducible refine Kd.zbe ?_ _) | (with_reducible refine Kd.zbj ?_ _) | (with_reducible refine Kd.zbz ?_))); (case side4 => exact (Kd.zaU HO155.out).2.1); rintro e w10 ⟨rfl, hb⟩; refine ⟨_, rfl, ?_⟩; have n0_ := zaa.mk (Kd.zaY (by (with_reducible repeat (first | apply Kd.zaH | apply Kd.zaN | apply Kd.zaX)); exact HO155.out) hb); have n1_ := zaa.mk (zaj (by repeat (first | (with_reducible first | exact HB.out | apply zad | apply zab | apply zae) | exact HB.out)) hb); clear HO155; clear HB; have HO155 := n0_; have HB := n1_; clear n0_ n1_; (try clear hb); (try clear hb2); (try clear hk); (try clear hi)))
   go_ret
   exact ⟨by first | rfl | (simp [zaF, zaG] <;> rfl) | (simp [*, zaF, zaG] <;> rfl), by repeat (first | (with_reducible first | exact HB.out | apply zad | apply zab | apply zae) | exact HB.out)⟩
  ·
   rw [if_neg c6] at H
   have c6b0 : (a1.toList == a2.toList) = false := beq_eq_false_iff_ne.mpr c6
   have c6b1 : (a1.toList != a2.toList) = true := bne_iff_ne.mpr c6
   replace H := Option.bind_eq_some_iff.mp H
   obtain ⟨t157, A110, H⟩ := H
   replace H : ((zaB.f t157 a2).bind fun t160 => (some t160)) = some r := H
   have A11 := zaa.mk A110
   clear A110
   replace H := Option.bind_eq_some_iff.mp H
   obtain ⟨t160, A120, H⟩ := H
   replace H : (some t160) = some r := H
   have A12 := zaa.mk A120
   clear A120
   obtain rfl := Option.some.inj H
   go_enter Tryd.func16, Tryd.ntmps16
   go_wp2_with (first | ((with_reducible refine za6 (N := 10) rfl ?_); refine Kd.R_lit Kd.string _ 9 ?hg (N := 10) ?hd (xs := ([a1, a2] : List ByteArray)) (inner := [.string a1, .string a2]) (ok := fun _ => True) (okp := fun _ => True) ?hr ?hp (fun _ hk => hk) trivial (Below.refl _ _) (Nat.le_refl _) s9 ?_; (case hd => rfl); (case hg => rfl); (case hr => first | (go_simp; done) | (go_simp; rfl)); (case hp => exact (Reps.one (show Kd.M Kd.string _ _ _ a1 [.string a1] from rfl) (Reps.one (show Kd.M Kd.string _ _ _ a2 [.string a2] from rfl) (Reps.none _ _)))); intro v154 w13 ho14 hb hg_ hnew_; clear hg_ hnew_; (first | rw [← Ny153.out] at ho14 | (simp only [Int.reduceToNat] at ho14; rw [← Ny153.out] at ho14)); have n0_ := zaa.mk (Kd.zbm ho14 (zaq (by repeat (first | (with_reducible first | exact HB.out | apply zad | apply zab | apply zae) | exact HB.out)))); have n1_ := zaa.mk (zaj (by repeat (first | (with_reducible first | exact HB.out | apply zad | apply zab | apply zae) | exact HB.out)) hb); clear HB; have HO155 := n0_; have HB := n1_; clear n0_ n1_; clear hb ho14; obtain ⟨Ao15, co15, eo15⟩ := Kd.zaR HO155.out; subst eo15) | ((with_reducible refine zaA (f := 32) rfl ?_); refine zbn (some 11) rfl rfl Tryd.func32 k9 rfl #[.slice A0 l0.length c0, .slice Ao15 y153.length co15] rfl m9 ?_; (with_reducible refine (za4.calls k _ _ l0 _ _ y153 true _ ?side1 ?side2 ?side3 ?side4 A4.out).mono ?_); (case side1 => repeat (first | exact (Kd.zay HR0.out HB.out) | (with_reducible refine Kd.zbe ?_ _) | (with_reducible refine Kd.zbj ?_ _) | (with_reducible refine Kd.zbz ?_))); (case side2 => exact HC0.out); (case side3 => repeat (first | exact (Kd.zaU HO155.out).2.2 | (with_reducible refine Kd.zbe ?_ _) | (with_reducible refine Kd.zbj ?_ _) | (with_reducible refine Kd.zbz ?_))); (case side4 => exact (Kd.zaU HO155.out).2.1); rintro e w16 ⟨rfl, hb⟩; refine ⟨_, rfl, ?_⟩; have n0_ := zaa.mk (Kd.zaY (by (with_reducible repeat (first | apply Kd.zaH | apply Kd.zaN | apply Kd.zaX)); exact HO155.out) hb); have n1_ := zaa.mk (zaj (by repeat (first | (with_reducible first | exact HB.out | apply zad | apply zab | apply zae) | exact HB.out)) hb); clear HO155; clear HB; have HO155 := n0_; have HB := n1_; clear n0_ n1_; (try clear hb); (try clear hb2); (try clear hk); (try clear hi)) | (go_at_call 34; (with_reducible refine (zbv.calls _ _ l0 a1 t157 _ ?side1 ?side2 A11.out).mono ?_); (case side1 => repeat (first | exact (Kd.zay HR0.out HB.out) | (with_reducible refine Kd.zbe ?_ _) | (with_reducible refine Kd.zbj ?_ _) | (with_reducible refine Kd.zbz ?_))); (case side2 => exact HC0.out); rintro e w17 ⟨v158, rfl, ho0, hb⟩; have n0_ := zaa.mk (Kd.zcq (by (with_reducible repeat (first | apply Kd.zaH | apply Kd.zaN | apply Kd.zaX)); exact HO155.out) (Kd.zbA ho0) hb); have n1_ := zaa.mk (Kd.zbm (Kd.zdL ho0 (Kd.R_lt (by (with_reducible repeat (first | apply Kd.zaH | apply Kd.zaN | apply Kd.zaX)); exact HO155.out))) (zaq (by repeat (first | (with_reducible first | exact HB.out | apply zad | apply zab | apply zae) | exact HB.out)))); have n2_ := zaa.mk (zaj (by repeat (first | (with_reducible first | exact HB.out | apply zad | apply zab | apply zae) | exact HB.out)) hb); clear HO155; clear HB; have HO155 := n0_; have HO159 := n1_; have HB := n2_; clear n0_ n1_ n2_; (try clear hb); (try clear hb2); (try clear hk); (try clear hi); (try clear ho0); obtain ⟨Ao18, co18, eo18⟩ := Kd.zaR HO159.out; subst eo18) | (go_at_call 33; (with_reducible refine (zaB.calls _ _ t157 a2 t160 _ ?side1 ?side2 A12.out).mono ?_); (case side1 => repeat (first | exact (Kd.zaU HO159.out).2.2 | (with_reducible refine Kd.zbe ?_ _) | (with_reducible refine Kd.zbj ?_ _) | (with_reducible refine Kd.zbz ?_))); (case side2 => exact (Kd.zaU HO159.out).2.1); rintro e w' ⟨rfl, ⟨nd, rfl⟩⟩))
   go_ret
   exact ⟨by first | rfl | (simp [zaF, zaG] <;> rfl) | (simp [*, zaF, zaG] <;> rfl), by repeat (first | (with_reducible first | exact HB.out | apply zad | apply zab | apply zae) | exact HB.out)⟩
 ·
  replace c5 := Bool.eq_false_iff.mpr c5
  subst c5
  have H1 : (some false) = some r := by rw [if_neg (show ¬ (false = true) by decide)] at H; exact H
  clear H
  have H := H1
  clear H1
  obtain rfl := Option.some.inj H
  go_enter Tryd.func16, Tryd.ntmps16
  go_wp2_with (first | ((with_reducible refine za6 (N := 10) rfl ?_); refine Kd.R_lit Kd.string _ 9 ?hg (N := 10) ?hd (xs := ([a1, a2] : List ByteArray)) (inner := [.string a1, .string a2]) (ok := fun _ => True) (okp := fun _ => True) ?hr ?hp (fun _ hk => hk) trivial (Below.refl _ _) (Nat.le_refl _) s9 ?_; (case hd => rfl); (case hg => rfl); (case hr => first | (go_simp; done) | (go_simp; rfl)); (case hp => exact (Reps.one (show Kd.M Kd.string _ _ _ a1 [.string a1] from rfl) (Reps.one (show Kd.M Kd.string _ _ _ a2 [.string a2] from rfl) (Reps.none _ _)))); intro v154 w19 ho20 hb hg_ hnew_; clear hg_ hnew_; (first | rw [← Ny153.out] at ho20 | (simp only [Int.reduceToNat] at ho20; rw [← Ny153.out] at ho20)); have n0_ := zaa.mk (Kd.zbm ho20 (zaq (by repeat (first | (with_reducible first | exact HB.out | apply zad | apply zab | apply zae) | exact HB.out)))); have n1_ := zaa.mk (zaj (by repeat (first | (with_reducible first | exact HB.out | apply zad | apply zab | apply zae) | exact HB.out)) hb); clear HB; have HO155 := n0_; have HB := n1_; clear n0_ n1_; clear hb ho20; obtain ⟨Ao21, co21, eo21⟩ := Kd.zaR HO155.out; subst eo21) | ((with_reducible refine zaA (f := 32) rfl ?_); refine zbn (some 11) rfl rfl Tryd.func32 k9 rfl #[.slice A0 l0.length c0, .slice Ao21 y153.length co21] rfl m9 ?_; (with_reducible refine (za4.calls k _ _ l0 _ _ y153 false _ ?side1 ?side2 ?side3 ?side4 A4.out).mono ?_); (case side1 => repeat (first | exact (Kd.zay HR0.out HB.out) | (with_reducible refine Kd.zbe ?_ _) | (with_reducible refine Kd.zbj ?_ _) | (with_reducible refine Kd.zbz ?_))); (case side2 => exact HC0.out); (case side3 => repeat (first | exact (Kd.zaU HO155.out).2.2 | (with_reducible refine Kd.zbe ?_ _) | (with_reducible refine Kd.zbj ?_ _) | (with_reducible refine Kd.zbz ?_))); (case side4 => exact (Kd.zaU HO155.out).2.1); rintro e w22 ⟨rfl, hb⟩; refine ⟨_, rfl, ?_⟩; have n0_ := zaa.mk (Kd.zaY (by (with_reducible repeat (first | apply Kd.zaH | apply Kd.zaN | apply Kd.zaX)); exact HO155.out) hb); have n1_ := zaa.mk (zaj (by repeat (first | (with_reducible first | exact HB.out | apply zad | apply zab | apply zae) | exact HB.out)) hb); clear HO155; clear HB; have HO155 := n0_; have HB := n1_; clear n0_ n1_; (try clear hb); (try clear hb2); (try clear hk); (try clear hi)))
  go_ret
  exact ⟨by first | rfl | (simp [zaF, zaG] <;> rfl) | (simp [*, zaF, zaG] <;> rfl), by repeat (first | (with_reducible first | exact HB.out | apply zad | apply zab | apply zae) | exact HB.out)⟩
def za9.f (k : Nat) (l0 : List (S43)) (a1 : ByteArray) : Option (Bool) := (zbp.f k l0 a1 a1).bind fun t161 => (some t161)
theorem za9.mono : ∀ a0 a1 k, LeO (za9.f k a0 a1) (za9.f (k + 1) a0 a1) := by
 intro a0 a1 k
 unfold za9.f
 repeat' first
   | (with_reducible exact zbp.mono _ _ _ _)
   | (with_reducible exact LeO.refl _)
   | (with_reducible exact LeO.none _)
   | (with_reducible refine LeO.ite ?_ ?_)
   | (with_reducible refine LeO.bind ?_ (fun _ => ?_))
   | exact zbp.mono _ _ _ _
   | exact LeO.none _
   | refine LeO.ite ?_ ?_
   | refine LeO.bind ?_ (fun _ => ?_)
theorem za9.calls (k : Nat) (A0 : Option Addr) (c0 : Nat) (l0 : List (S43)) (a1 : ByteArray) (r : Bool) (w : World) (hr0 : Kd.C k43 w A0 l0.length l0) (hc0 : l0.length ≤ c0) (h : za9.f k l0 a1 = some r) (hG : Go.Proofs.YtfhgmebhdchegaaDoorTab.GW w := by exact Go.Proofs.YtfhgmebhdchegaaDoorTab.GW.below hG (by repeat (first | (with_reducible first | exact HB.out | apply zad | apply zab | apply zae) | exact HB.out | refine zau ?_ (zaa.out (by assumption)) | exact Below.refl _ _))) :
  Calls Tryd.prog 29 #[.slice A0 l0.length c0, .string a1] w fun e w' => e = .returned (.bool r) ∧ Below w.heap.size w w' := by
 have HR0 := zaa.mk hr0
 have HC0 := zaa.mk hc0
 clear hr0 hc0
 have HB := zaa.mk (Below.refl w.heap.size w)
 have H : ((zbp.f k l0 a1 a1).bind fun t161 => (some t161)) = some r := h
 clear h
 replace H := Option.bind_eq_some_iff.mp H
 obtain ⟨t161, A30, H⟩ := H
 replace H : (some t161) = some r := H
 have A3 := zaa.mk A30
 clear A30
 obtain rfl := Option.some.inj H
 go_enter Tryd.func29, Tryd.ntmps29
 go_wp2_with (first | ((with_reducible refine zaA (f := 16) rfl ?_); refine zbn (some 8) rfl rfl Tryd.func16 k9 rfl #[.slice A0 l0.length c0, .string a1, .string a1] rfl m9 ?_; (with_reducible refine (zbp.calls k _ _ l0 a1 a1 t161 _ ?side1 ?side2 A3.out).mono ?_); (case side1 => repeat (first | exact HR0.out | (with_reducible refine Kd.zbe ?_ _) | (with_reducible refine Kd.zbj ?_ _) | (with_reducible refine Kd.zbz ?_))); (case side2 => exact HC0.out); rintro e w4 ⟨rfl, hb⟩; refine ⟨_, rfl, ?_⟩; have n0_ := zaa.mk (zaj (by repeat (first | (with_reducible first | exact HB.out | apply zad | apply zab | apply zae) | exact HB.out)) hb); clear HB; have HB := n0_; clear n0_; (try clear hb); (try clear hb2); (try clear hk); (try clear hi)))
 go_ret
 exact ⟨by first | rfl | (simp [zaF, zaG] <;> rfl) | (simp [*, zaF, zaG] <;> rfl), by repeat (first | (with_reducible first | exact HB.out | apply zad | apply zab | apply zae) | exact HB.out)⟩
open Go.Proofs.YtfhgmebhdchegaaDoorTab in
def zbG.f (l0 : List (S43)) (a1 : ByteArray) : Option (Int × Bool) := if l0.length < 4398046511104 then some (at1 l0 a1, is1 l0 a1) else none
open Go.Proofs.YtfhgmebhdchegaaDoorTab in
theorem zbG.calls (A0 : Option Addr) (c0 : Nat) (l0 : List (S43)) (a1 : ByteArray) (r1 : Int) (r2 : Bool) (w : World) (hr0 : Kd.C k43 w A0 l0.length l0) (hc0 : l0.length ≤ c0) (h : zbG.f l0 a1 = some (r1, r2)) :
  Calls Tryd.prog 14 #[.slice A0 l0.length c0, .string a1] w fun e w' => e = .returned (.tuple #[.int .i64 r1, .bool r2]) ∧ Below w.heap.size w w' := by
 unfold zbG.f at h
 by_cases hl : l0.length < 4398046511104
 ·
  rw [if_pos hl] at h
  cases h
  exact zbL A0 c0 l0 a1 w hr0 hl
 ·
  rw [if_neg hl] at h; cases h
theorem eqA84 (d : Nat) (w : World) (x0 y0 : ByteArray) (x1 y1 : Int) :
  (Op.equalIn (d + 2) 84 (.agg #[.string x0, .int .i64 x1]) (.agg #[.string y0, .int .i64 y1])).run Tryd.prog w = .ok (x0.toList == y0.toList && (x1 == y1)) w := by
 refine zgX Tryd.underlying84 k9 ?_
 refine zfn (by rfl) (by go_simp; rfl) (by go_simp; rfl) q9 ?_
 exact zfa (by rfl) (by go_simp; rfl) (by go_simp; rfl) q9
end Go.Proofs.YtfhgmebhdchegaaDoor.PAll
end

section
namespace Go.Proofs.YtfhgmebhdchegaaDoor.PAll
open Go.RowKit Go.Proofs.YtfhgmebhdchegaaDoorW.zai Go.Proofs.YtfhgmebhdchegaaDoorW.zas Go.Proofs.YtfhgmebhdchegaaDoorW.za5
attribute [local go_sem] zbg zbh zbt zbs za7 za8 zbf zbi
attribute [local go_sem high] eqA84
def zaC.l0 : Nat → List (S84) → Int → Int → ByteArray → Int → Option (Int)
 | 0, _, _, _, _, _ => none
 | k + 1, x0, x7, x8, x179000, x179001 => if x8 < x7 then (if 0 ≤ x8 then (if x8 < (x0.length : Int) then (if (x179000.toList == (((zaV x0 x8).f0).toList) && (x179001 == ((zaV x0 x8).f1))) = true then (some x8) else (zaC.l0 k x0 x7 (wrap64 (x8 + 1)) x179000 x179001)) else (none)) else (none)) else (some (-1))
def zaC.f (k : Nat) (l0 : List (S84)) (a1_0 : ByteArray) (a1_1 : Int) : Option (Int) := zaC.l0 k l0 (l0.length : Int) 0 a1_0 a1_1
theorem zaC.zcF : ∀ k, (∀ y0 y1 y2 y3 y4, LeO (zaC.l0 k y0 y1 y2 y3 y4) (zaC.l0 (k + 1) y0 y1 y2 y3 y4))
 | 0 => fun _ _ _ _ _ r h => by simp [zaC.l0] at h
 | k + 1 => by
  have ih0 := zaC.zcF k
  ·
   intro y0 y1 y2 y3 y4
   unfold zaC.l0
   repeat' first
   | (with_reducible exact ih0 _ _ _ _ _)
   | (with_reducible exact LeO.refl _)
   | (with_reducible exact LeO.none _)
   | (with_reducible refine LeO.ite ?_ ?_)
   | (with_reducible refine LeO.bind ?_ (fun _ => ?_))
   | exact ih0 _ _ _ _ _
   | exact LeO.none _
   | refine LeO.ite ?_ ?_
   | refine LeO.bind ?_ (fun _ => ?_)
theorem zaC.mono : ∀ a0 a1 a2 k, LeO (zaC.f k a0 a1 a2) (zaC.f (k + 1) a0 a1 a2) := by
 intro a0 a1 a2 k
 have ih0 := zaC.zcF k
 unfold zaC.f
 repeat' first
   | (with_reducible exact ih0 _ _ _ _ _)
   | (with_reducible exact LeO.refl _)
   | (with_reducible exact LeO.none _)
   | (with_reducible refine LeO.ite ?_ ?_)
   | (with_reducible refine LeO.bind ?_ (fun _ => ?_))
   | exact ih0 _ _ _ _ _
   | exact LeO.none _
   | refine LeO.ite ?_ ?_
   | refine LeO.bind ?_ (fun _ => ?_)
theorem zaC.calls (k : Nat) (A0 : Option Addr) (c0 : Nat) (l0 : List (S84)) (a1_0 : ByteArray) (a1_1 : Int) (r : Int) (w : World) (hr0 : Kd.C k84 w A0 l0.length l0) (hc0 : l0.length ≤ c0) (h : zaC.f k l0 a1_0 a1_1 = some r) :
  Calls Tryd.prog 63 #[.slice A0 l0.length c0, .agg #[.string a1_0, .int .i64 a1_1]] w fun e w' => e = .returned (.int .i64 r) ∧ Below w.heap.size w w' := by
 have hu84 := Tryd.underlying84
 have HR0 := zaa.mk hr0
 have HC0 := zaa.mk hc0
 clear hr0 hc0
 have HB := zaa.mk (Below.refl w.heap.size w)
 have H : (zaC.l0 k l0 (l0.length : Int) 0 a1_0 a1_1) = some r := h
 clear h
 have H' := zaa.mk H
 clear H
 go_enter Tryd.func63, Tryd.ntmps63
 go_wp2_with (first | ((with_reducible refine za6 (N := 3) rfl ?_); refine zbE ?hg (N := 3) ?hd (cs := #[.string a1_0, .int .i64 a1_1]) (t := 84) ?hr ?_; (case hd => rfl); (case hg => rfl); (case hr => first | (go_simp; done) | (go_simp; rfl)); intro gb178 hg w3 hbox hb; have n0_ := zaa.mk (zaj (by repeat (first | (with_reducible first | exact HB.out | apply zad | apply zab | apply zae) | exact HB.out)) hb); have n1_ := zaa.mk (hbox); have n2_ := zaa.mk ((by rw [hg]; exact (zaq (by repeat (first | (with_reducible first | exact HB.out | apply zad | apply zab | apply zae) | exact HB.out))) : w.heap.size ≤ gb178)); have n3_ := zaa.mk ((by rw [hg]; exact (zaq (by repeat (first | (with_reducible first | exact HB.out | apply zad | apply zab | apply zae) | exact HB.out))) : w.heap.size ≤ gb178)); clear HB; have HB := n0_; have BK178 := n1_; have GW178 := n2_; have GE178 := n3_; clear n0_ n1_ n2_ n3_; clear hb hbox hg))
 repeat (go_quiet (first | ((with_reducible refine za6 (N := 3) rfl ?_); refine zbE ?hg (N := 3) ?hd (cs := #[.string a1_0, .int .i64 a1_1]) (t := 84) ?hr ?_; (case hd => rfl); (case hg => rfl); (case hr => first | (go_simp; done) | (go_simp; rfl)); intro gb178 hg w3 hbox hb; have n0_ := zaa.mk (zaj (by repeat (first | (with_reducible first | exact HB.out | apply zad | apply zab | apply zae) | exact HB.out)) hb); have n1_ := zaa.mk (hbox); have n2_ := zaa.mk ((by rw [hg]; exact (zaq (by repeat (first | (with_reducible first | exact HB.out | apply zad | apply zab | apply zae) | exact HB.out))) : w.heap.size ≤ gb178)); have n3_ := zaa.mk ((by rw [hg]; exact (zaq (by repeat (first | (with_reducible first | exact HB.out | apply zad | apply zab | apply zae) | exact HB.out))) : w.heap.size ≤ gb178)); clear HB; have HB := n0_; have BK178 := n1_; have GW178 := n2_; have GE178 := n3_; clear n0_ n1_ n2_ n3_; clear hb hbox hg)); try go_wp2_with (first | ((with_reducible refine za6 (N := 3) rfl ?_); refine zbE ?hg (N := 3) ?hd (cs := #[.string a1_0, .int .i64 a1_1]) (t := 84) ?hr ?_; (case hd => rfl); (case hg => rfl); (case hr => first | (go_simp; done) | (go_simp; rfl)); intro gb178 hg w3 hbox hb; have n0_ := zaa.mk (zaj (by repeat (first | (with_reducible first | exact HB.out | apply zad | apply zab | apply zae) | exact HB.out)) hb); have n1_ := zaa.mk (hbox); have n2_ := zaa.mk ((by rw [hg]; exact (zaq (by repeat (first | (with_reducible first | exact HB.out | apply zad | apply zab | apply zae) | exact HB.out))) : w.heap.size ≤ gb178)); have n3_ := zaa.mk ((by rw [hg]; exact (zaq (by repeat (first | (with_reducible first | exact HB.out | apply zad | apply zab | apply zae) | exact HB.out))) : w.heap.size ≤ gb178)); clear HB; have HB := n0_; have BK178 := n1_; have GW178 := n2_; have GE178 := n3_; clear n0_ n1_ n2_ n3_; clear hb hbox hg)))
 go_loopg [8] k (fun kq v8 w' => ∃ (x8_1 : Int), v8 = .int .i64 x8_1 ∧ zaa (zaC.l0 kq l0 (l0.length : Int) x8_1 a1_0 a1_1 = some r) ∧ zaa (kq ≤ k) ∧ zaa (w'.heap[gb178]? = some (.cells #[.string a1_0, .int .i64 a1_1] 84 (0, 0))) ∧ zaa (Below w.heap.size w w'))
 case atStart => exact ⟨(0), (by first | rfl | (simp; done) | (simp [*]; done)), H', ⟨Nat.le_refl _⟩, ⟨by (with_reducible repeat (first | refine zaD ?_ _ | refine zaL ?_ | refine zaE ?_ _)); exact BK178.out⟩, ⟨by repeat (first | (with_reducible first | exact HB.out | apply zad | apply zab | apply zae | refine zau ?_ GE178.out) | exact HB.out)⟩⟩
 case round =>
  clear H'
  try clear p2
  obtain ⟨x8_1, rfl, HA, HK1, BK178, HB⟩ := hrel
  cases gk with
  | zero => exact absurd HA.out (by simp [zaC.l0])
  | succ k1 =>
   have H := HA.out
   clear HA
   simp only [zaC.l0] at H
   by_cases c4 : x8_1 < (l0.length : Int)
   ·
    rw [if_pos c4] at H
    have c4b0 : decide (x8_1 < (l0.length : Int)) = true := decide_eq_true c4
    clear c4
    by_cases c5 : 0 ≤ x8_1
    ·
     rw [if_pos c5] at H
     have c5b0 : decide (0 ≤ x8_1) = true := decide_eq_true c5
     clear c5
     by_cases c6 : x8_1 < (l0.length : Int)
     ·
      rw [if_pos c6] at H
      have c6b0 : decide (x8_1 < (l0.length : Int)) = true := decide_eq_true c6
      clear c6
      by_cases c7 : (a1_0.toList == (((zaV l0 x8_1).f0).toList) && (a1_1 == ((zaV l0 x8_1).f1))) = true
      ·
       rw [if_pos c7] at H
       have c7b0 : (a1_0.toList == (((zaV l0 x8_1).f0).toList) && (a1_1 == ((zaV l0 x8_1).f1))) = true := c7
       (try (have c7b1 : decide (a1_0.toList = (((zaV l0 x8_1).f0).toList) && (a1_1 == ((zaV l0 x8_1).f1))) = true := by simpa using c7))
       (try (have c7b2 : (a1_0.toList == (((zaV l0 x8_1).f0).toList) && (a1_1 == ((zaV l0 x8_1).f1))) = true := by simpa using c7))
       clear c7
       obtain rfl := Option.some.inj H
       have hcz8_0 : wr.cell? ⟨gb178, 0, none⟩ = some (.string a1_0) := (zaZ BK178.out 0).trans rfl
       have hcz8_1 : wr.cell? ⟨gb178, 1, none⟩ = some (.int .i64 a1_1) := (zaZ BK178.out 1).trans rfl
       have hfz8_0 := zaJ BK178.out 0
       have hfz8_1 := zaJ BK178.out 1
       have p179 : 0 ≤ (x8_1 : Int) := of_decide_eq_true (by first | (with_reducible assumption) | assumption)
       have q179 : x8_1 < (l0.length : Int) := of_decide_eq_true (by first | (with_reducible assumption) | assumption)
       obtain ⟨ad179, e179, hx179_0, hx179_1⟩ := zdY HR0.out x8_1 p179 q179
       cases e179
       replace hx179_0 := (HB.out.cell (World.block_lt_of_cell? w _ hx179_0)).trans hx179_0
       replace hx179_1 := (HB.out.cell (World.block_lt_of_cell? w _ hx179_1)).trans hx179_1
       replace p179 := eq_true p179
       replace q179 := eq_true q179
       go_wp2
       repeat (go_quiet (fail); try go_wp2)
       go_ret
       exact ⟨by first | rfl | (simp [zaF, zaG] <;> rfl) | (simp [*, zaF, zaG] <;> rfl), by repeat (first | (with_reducible first | exact HB.out | apply zad | apply zab | apply zae | refine zau ?_ GE178.out) | exact HB.out)⟩
      ·
       rw [if_neg c7] at H
       have c7b0 : (a1_0.toList == (((zaV l0 x8_1).f0).toList) && (a1_1 == ((zaV l0 x8_1).f1))) = false := by simpa using c7
       (try (have c7b1 : decide (a1_0.toList = (((zaV l0 x8_1).f0).toList) && (a1_1 == ((zaV l0 x8_1).f1))) = false := by simpa using c7))
       (try (have c7b2 : (a1_0.toList == (((zaV l0 x8_1).f0).toList) && (a1_1 == ((zaV l0 x8_1).f1))) = false := by simpa using c7))
       (try (have c7b3 : ¬ (a1_0.toList = (((zaV l0 x8_1).f0).toList) && (a1_1 == ((zaV l0 x8_1).f1))) := by simpa using c7))
       clear c7
       have H' := zaa.mk H
       clear H
       have hcz9_0 : wr.cell? ⟨gb178, 0, none⟩ = some (.string a1_0) := (zaZ BK178.out 0).trans rfl
       have hcz9_1 : wr.cell? ⟨gb178, 1, none⟩ = some (.int .i64 a1_1) := (zaZ BK178.out 1).trans rfl
       have hfz9_0 := zaJ BK178.out 0
       have hfz9_1 := zaJ BK178.out 1
       have p179 : 0 ≤ (x8_1 : Int) := of_decide_eq_true (by first | (with_reducible assumption) | assumption)
       have q179 : x8_1 < (l0.length : Int) := of_decide_eq_true (by first | (with_reducible assumption) | assumption)
       obtain ⟨ad179, e179, hx179_0, hx179_1⟩ := zdY HR0.out x8_1 p179 q179
       cases e179
       replace hx179_0 := (HB.out.cell (World.block_lt_of_cell? w _ hx179_0)).trans hx179_0
       replace hx179_1 := (HB.out.cell (World.block_lt_of_cell? w _ hx179_1)).trans hx179_1
       replace p179 := eq_true p179
       replace q179 := eq_true q179
       go_wp2
       repeat (go_quiet (fail); try go_wp2)
       go_roundg k1
       case measure => have := HK1.out; omega
       case rel => exact ⟨(wrap64 (x8_1 + 1)), (by first | rfl | (simp; done) | (simp [*]; done)), H', ⟨by have := HK1.out; omega⟩, ⟨by (with_reducible repeat (first | refine zaD ?_ _ | refine zaL ?_ | refine zaE ?_ _)); exact BK178.out⟩, ⟨by repeat (first | (with_reducible first | exact HB.out | apply zad | apply zab | apply zae | refine zau ?_ GE178.out) | exact HB.out)⟩⟩
     ·
      rw [if_neg c6] at H
      exact absurd H s9
    ·
     rw [if_neg c5] at H
     exact absurd H s9
   ·
    rw [if_neg c4] at H
    have c4b0 : decide (x8_1 < (l0.length : Int)) = false := decide_eq_false c4
    clear c4
    obtain rfl := Option.some.inj H
    go_wp2
    repeat (go_quiet (fail); try go_wp2)
    go_ret
    exact ⟨by first | rfl | (simp [zaF, zaG] <;> rfl) | (simp [*, zaF, zaG] <;> rfl), by repeat (first | (with_reducible first | exact HB.out | apply zad | apply zab | apply zae | refine zau ?_ GE178.out) | exact HB.out)⟩
end Go.Proofs.YtfhgmebhdchegaaDoor.PAll
end

section
namespace Go.Proofs.YtfhgmebhdchegaaDoor.PAll
open Go.RowKit Go.Proofs.YtfhgmebhdchegaaDoorW.zai Go.Proofs.YtfhgmebhdchegaaDoorW.zas Go.Proofs.YtfhgmebhdchegaaDoorW.za5
attribute [local go_sem] zbg zbh zbt zbs za7 za8 zbf zbi
def zaW.f (k : Nat) (l0 : List (S84)) (a1_0 : ByteArray) (a1_1 : Int) : Option (Bool) := (zaC.f k l0 a1_0 a1_1).bind fun t181 => (some (decide (t181 ≥ 0)))
theorem zaW.mono : ∀ a0 a1 a2 k, LeO (zaW.f k a0 a1 a2) (zaW.f (k + 1) a0 a1 a2) := by
 intro a0 a1 a2 k
 unfold zaW.f
 repeat' first
   | (with_reducible exact zaC.mono _ _ _ _)
   | (with_reducible exact LeO.refl _)
   | (with_reducible exact LeO.none _)
   | (with_reducible refine LeO.ite ?_ ?_)
   | (with_reducible refine LeO.bind ?_ (fun _ => ?_))
   | exact zaC.mono _ _ _ _
   | exact LeO.none _
   | refine LeO.ite ?_ ?_
   | refine LeO.bind ?_ (fun _ => ?_)
theorem zaW.calls (k : Nat) (A0 : Option Addr) (c0 : Nat) (l0 : List (S84)) (a1_0 : ByteArray) (a1_1 : Int) (r : Bool) (w : World) (hr0 : Kd.C k84 w A0 l0.length l0) (hc0 : l0.length ≤ c0) (h : zaW.f k l0 a1_0 a1_1 = some r) :
  Calls Tryd.prog 42 #[.slice A0 l0.length c0, .agg #[.string a1_0, .int .i64 a1_1]] w fun e w' => e = .returned (.bool r) ∧ Below w.heap.size w w' := by
 have hu84 := Tryd.underlying84
 have HR0 := zaa.mk hr0
 have HC0 := zaa.mk hc0
 clear hr0 hc0
 have HB := zaa.mk (Below.refl w.heap.size w)
 have H : ((zaC.f k l0 a1_0 a1_1).bind fun t181 => (some (decide (t181 ≥ 0)))) = some r := h
 clear h
 replace H := Option.bind_eq_some_iff.mp H
 obtain ⟨t181, A30, H⟩ := H
 replace H : (some (decide (t181 ≥ 0))) = some r := H
 have A3 := zaa.mk A30
 clear A30
 obtain rfl := Option.some.inj H
 go_enter Tryd.func42, Tryd.ntmps42
 go_wp2_with (first | ((with_reducible refine za6 (N := 3) rfl ?_); refine zbE ?hg (N := 3) ?hd (cs := #[.string a1_0, .int .i64 a1_1]) (t := 84) ?hr ?_; (case hd => rfl); (case hg => rfl); (case hr => first | (go_simp; done) | (go_simp; rfl)); intro gb180 hg w4 hbox hb; have n0_ := zaa.mk (zaj (by repeat (first | (with_reducible first | exact HB.out | apply zad | apply zab | apply zae) | exact HB.out)) hb); have n1_ := zaa.mk (hbox); have n2_ := zaa.mk ((by rw [hg]; exact (zaq (by repeat (first | (with_reducible first | exact HB.out | apply zad | apply zab | apply zae) | exact HB.out))) : w.heap.size ≤ gb180)); have n3_ := zaa.mk ((by rw [hg]; exact (zaq (by repeat (first | (with_reducible first | exact HB.out | apply zad | apply zab | apply zae) | exact HB.out))) : w.heap.size ≤ gb180)); clear HB; have HB := n0_; have BK180 := n1_; have GW180 := n2_; have GE180 := n3_; clear n0_ n1_ n2_ n3_; clear hb hbox hg; have hcz5_0 : w4.cell? ⟨gb180, 0, none⟩ = some (.string a1_0) := (zaZ BK180.out 0).trans rfl; have hcz5_1 : w4.cell? ⟨gb180, 1, none⟩ = some (.int .i64 a1_1) := (zaZ BK180.out 1).trans rfl; have hfz5_0 := zaJ BK180.out 0; have hfz5_1 := zaJ BK180.out 1) | ((with_reducible refine zaA (f := 63) rfl ?_); refine zbn (some 7) rfl rfl Tryd.func63 k9 rfl #[.slice A0 l0.length c0, .agg #[.string a1_0, .int .i64 a1_1]] rfl m9 ?_; (with_reducible refine (zaC.calls k _ _ l0 a1_0 a1_1 t181 _ ?side1 ?side2 A3.out).mono ?_); (case side1 => repeat (first | exact (Kd.zay HR0.out HB.out) | (with_reducible refine Kd.zbe ?_ _) | (with_reducible refine Kd.zbj ?_ _) | (with_reducible refine Kd.zbz ?_))); (case side2 => exact HC0.out); rintro e w6 ⟨rfl, hb⟩; refine ⟨_, rfl, ?_⟩; have n0_ := zaa.mk (zb4 (g := gb180) (o := .cells #[.string a1_0, .int .i64 a1_1] 84 (0, 0)) (by (with_reducible repeat (first | refine zaD ?_ _ | refine zaL ?_ | refine zaE ?_ _)); exact BK180.out) hb); have n1_ := zaa.mk (zaj (by repeat (first | (with_reducible first | exact HB.out | apply zad | apply zab | apply zae | refine zau ?_ GE180.out) | exact HB.out)) hb); clear BK180; clear HB; have BK180 := n0_; have HB := n1_; clear n0_ n1_; (try clear hb); (try clear hb2); (try clear hk); (try clear hi)))
 go_ret
 exact ⟨by first | rfl | (simp [zaF, zaG] <;> rfl) | (simp [*, zaF, zaG] <;> rfl), by repeat (first | (with_reducible first | exact HB.out | apply zad | apply zab | apply zae | refine zau ?_ GE180.out) | exact HB.out)⟩
end Go.Proofs.YtfhgmebhdchegaaDoor.PAll
end
