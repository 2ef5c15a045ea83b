/- Parts of the proof of one statement, packed: what the program's functions compute. No conditions. -/
import Derived.Test.YtinkbljjpafadaaKA1
import Derived.Test.YtinkbljjpafadaaKA3
import Derived.Test.YtinkbljjpafadaaKA2
section
namespace Go.Proofs.Ytinkbljjpafadaa.PAll
open Go.RowKit Go.Proofs.YtinkbljjpafadaaW.PrintWords Go.Proofs.YtinkbljjpafadaaW.PrintLast Go.Proofs.YtinkbljjpafadaaW.PrintMore
attribute [local go_sem] max2_int min2_int max_two min_two max_three min_three max_four min_four   -- for this text's walks alone
set_option linter.unusedVariables false
set_option linter.unusedSimpArgs false
def coerce_caster_behind.f (l0_0 : List (S64)) (a0_1 : Bool) (a0_2 : Int) (a1_0 : Int) (a1_1 : Int) (a1_2 : Int) (a1_3 : ByteArray) (l1_4 : List (S35)) (a2 : Bool) (a3 : ByteArray) : Option (Int × Int × Int × ByteArray × (List (S35))) := if a0_1 = true then ((chain_Add.f l1_4 a2 a3 a0_2).bind fun t178 => (some (a1_0, a1_1, a1_2, a1_3, t178))) else ((api_Layer_52.f l1_4).bind fun t181 => ((some (([(⟨a2, a3, a0_2⟩ : S35)] : List (S35)) : List (S35))).bind fun y184 => (if t181.length + y184.length < 4398046511104 then (some (a1_0, a1_1, a1_2, a1_3, (t181 ++ y184))) else (none))))
def coerce_caster_behind.T4 : Bool × List (List Nat × List Nat) := (true, [([], []), ([0], [0]), ([1], [1]), ([], []), ([3], [3]), ([2, 4, 2], [2, 4]), ([0, 1, 2, 3, 4, 5], []), ([6, 5, 5, 0, 1, 2, 3, 4, 5], [5, 6])])
def coerce_caster_behind.B4 : List Nat := [0, 1, 3, 0, 8, 31, 63, 127]
theorem coerce_caster_behind.tab4 : rtab .any (opsOf Try.f53 4) = coerce_caster_behind.T4 := by kernel_rfl
theorem coerce_caster_behind.bits4 : waitsOk coerce_caster_behind.T4.2 coerce_caster_behind.B4 = true := by kernel_rfl
set_option maxHeartbeats 8000000 in
set_option maxRecDepth 100000 in
theorem coerce_caster_behind.calls (A0_0 : Option Addr) (c0_0 : Nat) (l0_0 : List (S64)) (a0_1 : Bool) (a0_2 : Int) (a1_0 : Int) (a1_1 : Int) (a1_2 : Int) (a1_3 : ByteArray) (A1_4 : Option Addr) (c1_4 : Nat) (l1_4 : List (S35)) (a2 : Bool) (a3 : ByteArray) (r1 : Int) (r2 : Int) (r3 : Int) (r4 : ByteArray) (r5 : List (S35)) (w : World) (hr0_0 : Kd.C k64 w A0_0 l0_0.length l0_0) (hc0_0 : l0_0.length ≤ c0_0) (hr1_4 : Kd.C k35 w A1_4 l1_4.length l1_4) (hc1_4 : l1_4.length ≤ c1_4) (h : coerce_caster_behind.f l0_0 a0_1 a0_2 a1_0 a1_1 a1_2 a1_3 l1_4 a2 a3 = some (r1, r2, r3, r4, r5)) :
  Calls Try.prog 53 #[.agg #[.slice A0_0 l0_0.length c0_0, .bool a0_1, .int .i64 a0_2], .agg #[.int .i64 a1_0, .int .i64 a1_1, .int .u64 a1_2, .string a1_3, .slice A1_4 l1_4.length c1_4], .bool a2, .string a3] w fun e w' => ∃ v4_ : Value, e = .returned (.agg #[.int .i64 r1, .int .i64 r2, .int .u64 r3, .string r4, v4_]) ∧ Kd.R k35 35 w' w.heap.size (fun _ => True) v4_ r5 ∧ Below w.heap.size w w' := by
 have hu73 := Try.underlying73
 have hu27 := Try.underlying27
 have hu35 := Try.underlying35
 have HR0_0 := Aside0.mk hr0_0
 have HC0_0 := Aside0.mk hc0_0
 clear hr0_0 hc0_0
 have HR1_4 := Aside0.mk hr1_4
 have HC1_4 := Aside0.mk hc1_4
 clear hr1_4 hc1_4
 have HB := Aside0.mk (Below.refl w.heap.size w)
 have H : (if a0_1 = true then ((chain_Add.f l1_4 a2 a3 a0_2).bind fun t178 => (some (a1_0, a1_1, a1_2, a1_3, t178))) else ((api_Layer_52.f l1_4).bind fun t181 => ((some (([(⟨a2, a3, a0_2⟩ : S35)] : List (S35)) : List (S35))).bind fun y184 => (if t181.length + y184.length < 4398046511104 then (some (a1_0, a1_1, a1_2, a1_3, (t181 ++ y184))) else (none))))) = some (r1, r2, r3, r4, r5) := h
 clear h
 by_cases c5 : a0_1 = true
 ·
  subst c5
  have H1 : ((chain_Add.f l1_4 a2 a3 a0_2).bind fun t178 => (some (a1_0, a1_1, a1_2, a1_3, t178))) = some (r1, r2, r3, r4, r5) := by rw [if_pos rfl] at H; exact H
  clear H
  have H := H1
  clear H1
  replace H := Option.bind_eq_some_iff.mp H
  obtain ⟨t178, A60, H⟩ := H
  replace H : (some (a1_0, a1_1, a1_2, a1_3, t178)) = some (r1, r2, r3, r4, r5) := H
  have A6 := Aside0.mk A60
  clear A60
  simp only [Option.some.injEq, Prod.mk.injEq] at H
  obtain ⟨rfl, rfl, rfl, rfl, rfl⟩ := H
  go_enter Try.func53, Try.ntmps53
  go_wp2_with (first | ((with_reducible refine gate_dst (N := 4) rfl ?_); refine box_event ?hg (N := 4) ?hd (cs := #[.slice A0_0 l0_0.length c0_0, .bool true, .int .i64 a0_2]) (t := 73) ?hr ?_; (case hd => rfl); (case hg => rfl); (case hr => first | (go_simp; done) | (go_simp; rfl)); intro gb174 hg w7 hbox hb; have n0_ := Aside0.mk (below_step (by repeat (first | (with_reducible first | exact HB.out | apply below_alloc | apply pw_below_drewN | apply below_drew1) | exact HB.out)) hb); have n1_ := Aside0.mk (hbox); have n2_ := Aside0.mk ((by rw [hg]; exact (below_size (by repeat (first | (with_reducible first | exact HB.out | apply below_alloc | apply pw_below_drewN | apply below_drew1) | exact HB.out))) : w.heap.size ≤ gb174)); have n3_ := Aside0.mk ((by rw [hg]; exact (below_size (by repeat (first | (with_reducible first | exact HB.out | apply below_alloc | apply pw_below_drewN | apply below_drew1) | exact HB.out))) : w.heap.size ≤ gb174)); clear HB; have HB := n0_; have BK174 := n1_; have GW174 := n2_; have GE174 := n3_; clear n0_ n1_ n2_ n3_; clear hb hbox hg) | ((with_reducible refine gate_dst (N := 5) rfl ?_); refine box_event ?hg (N := 5) ?hd (cs := #[.int .i64 a1_0, .int .i64 a1_1, .int .u64 a1_2, .string a1_3, .slice A1_4 l1_4.length c1_4]) (t := 27) ?hr ?_; (case hd => rfl); (case hg => rfl); (case hr => first | (go_simp; done) | (go_simp; rfl)); intro gb175 hg w8 hbox hb; have n0_ := Aside0.mk (blk_below (g := gb174) (o := .cells #[.slice A0_0 l0_0.length c0_0, .bool true, .int .i64 a0_2] 73 (0, 0)) (by (with_reducible repeat (first | refine blk_drewN ?_ _ | refine blk_drew ?_ | refine blk_alloc ?_ _)); exact BK174.out) hb); have n1_ := Aside0.mk (below_step (by repeat (first | (with_reducible first | exact HB.out | apply below_alloc | apply pw_below_drewN | apply below_drew1 | refine below_set ?_ GE174.out) | exact HB.out)) hb); have n2_ := Aside0.mk (hbox); have n3_ := Aside0.mk ((by rw [hg]; exact (below_size (by repeat (first | (with_reducible first | exact HB.out | apply below_alloc | apply pw_below_drewN | apply below_drew1 | refine below_set ?_ GE174.out) | exact HB.out))) : w.heap.size ≤ gb175)); have n4_ := Aside0.mk ((by rw [hg]; exact (below_size (by repeat (first | (with_reducible first | exact HB.out | apply below_alloc | apply pw_below_drewN | apply below_drew1 | refine below_set ?_ GE174.out) | exact HB.out))) : w.heap.size ≤ gb175)); have n5_ := Aside0.mk ((by rw [hg]; exact Nat.ne_of_lt (blk_lt (g := gb174) (o := .cells #[.slice A0_0 l0_0.length c0_0, .bool true, .int .i64 a0_2] 73 (0, 0)) (by (with_reducible repeat (first | refine blk_drewN ?_ _ | refine blk_drew ?_ | refine blk_alloc ?_ _)); exact BK174.out)) : gb174 ≠ gb175)); have n6_ := Aside0.mk ((by rw [hg]; exact Nat.ne_of_gt (blk_lt (g := gb174) (o := .cells #[.slice A0_0 l0_0.length c0_0, .bool true, .int .i64 a0_2] 73 (0, 0)) (by (with_reducible repeat (first | refine blk_drewN ?_ _ | refine blk_drew ?_ | refine blk_alloc ?_ _)); exact BK174.out)) : gb175 ≠ gb174)); clear BK174; clear HB; have BK174 := n0_; have HB := n1_; have BK175 := n2_; have GW175 := n3_; have GE175 := n4_; have NB174_175 := n5_; have NB175_174 := n6_; clear n0_ n1_ n2_ n3_ n4_ n5_ n6_; clear hb hbox hg) | ((with_reducible refine gate_dst (N := 8) rfl ?_); refine box_event ?hg (N := 8) ?hd (cs := #[.int .i64 0, .int .i64 0, .int .u64 0, .string (⟨#[]⟩ : ByteArray), .slice none 0 0]) (t := 27) ?hr ?_; (case hd => rfl); (case hg => rfl); (case hr => first | (go_simp; done) | (go_simp; rfl)); intro gb176 hg w9 hbox hb; have n0_ := Aside0.mk (blk_below (g := gb174) (o := .cells #[.slice A0_0 l0_0.length c0_0, .bool true, .int .i64 a0_2] 73 (0, 0)) (by (with_reducible repeat (first | refine blk_drewN ?_ _ | refine blk_drew ?_ | refine blk_alloc ?_ _)); exact BK174.out) hb); have n1_ := Aside0.mk (blk_below (g := gb175) (o := .cells #[.int .i64 a1_0, .int .i64 a1_1, .int .u64 a1_2, .string a1_3, .slice A1_4 l1_4.length c1_4] 27 (0, 0)) (by (with_reducible repeat (first | refine blk_drewN ?_ _ | refine blk_drew ?_ | refine blk_alloc ?_ _)); exact BK175.out) hb); have n2_ := Aside0.mk (below_step (by repeat (first | (with_reducible first | exact HB.out | apply below_alloc | apply pw_below_drewN | apply below_drew1 | refine below_set ?_ GE174.out | refine below_set ?_ GE175.out) | exact HB.out)) hb); have n3_ := Aside0.mk (hbox); have n4_ := Aside0.mk ((by rw [hg]; exact (below_size (by repeat (first | (with_reducible first | exact HB.out | apply below_alloc | apply pw_below_drewN | apply below_drew1 | refine below_set ?_ GE174.out | refine below_set ?_ GE175.out) | exact HB.out))) : w.heap.size ≤ gb176)); have n5_ := Aside0.mk ((by rw [hg]; exact (below_size (by repeat (first | (with_reducible first | exact HB.out | apply below_alloc | apply pw_below_drewN | apply below_drew1 | refine below_set ?_ GE174.out | refine below_set ?_ GE175.out) | exact HB.out))) : w.heap.size ≤ gb176)); have n6_ := Aside0.mk ((by rw [hg]; exact Nat.ne_of_lt (blk_lt (g := gb174) (o := .cells #[.slice A0_0 l0_0.length c0_0, .bool true, .int .i64 a0_2] 73 (0, 0)) (by (with_reducible repeat (first | refine blk_drewN ?_ _ | refine blk_drew ?_ | refine blk_alloc ?_ _)); exact BK174.out)) : gb174 ≠ gb176)); have n7_ := Aside0.mk ((by rw [hg]; exact Nat.ne_of_gt (blk_lt (g := gb174) (o := .cells #[.slice A0_0 l0_0.length c0_0, .bool true, .int .i64 a0_2] 73 (0, 0)) (by (with_reducible repeat (first | refine blk_drewN ?_ _ | refine blk_drew ?_ | refine blk_alloc ?_ _)); exact BK174.out)) : gb176 ≠ gb174)); have n8_ := Aside0.mk ((by rw [hg]; exact Nat.ne_of_lt (blk_lt (g := gb175) (o := .cells #[.int .i64 a1_0, .int .i64 a1_1, .int .u64 a1_2, .string a1_3, .slice A1_4 l1_4.length c1_4] 27 (0, 0)) (by (with_reducible repeat (first | refine blk_drewN ?_ _ | refine blk_drew ?_ | refine blk_alloc ?_ _)); exact BK175.out)) : gb175 ≠ gb176)); have n9_ := Aside0.mk ((by rw [hg]; exact Nat.ne_of_gt (blk_lt (g := gb175) (o := .cells #[.int .i64 a1_0, .int .i64 a1_1, .int .u64 a1_2, .string a1_3, .slice A1_4 l1_4.length c1_4] 27 (0, 0)) (by (with_reducible repeat (first | refine blk_drewN ?_ _ | refine blk_drew ?_ | refine blk_alloc ?_ _)); exact BK175.out)) : gb176 ≠ gb175)); clear BK174; clear BK175; clear HB; have BK174 := n0_; have BK175 := n1_; have HB := n2_; have BK176 := n3_; have GW176 := n4_; have GE176 := n5_; have NB174_176 := n6_; have NB176_174 := n7_; have NB175_176 := n8_; have NB176_175 := n9_; clear n0_ n1_ n2_ n3_ n4_ n5_ n6_ n7_ n8_ n9_; clear hb hbox hg; have hnb10 := NB174_175.out; have hnc10 := NB175_174.out; have hnb11 := NB174_176.out; have hnc11 := NB176_174.out; have hcz12_0 : w9.cell? ⟨gb174, 0, none⟩ = some (.slice A0_0 l0_0.length c0_0) := (blk_cell BK174.out 0).trans rfl; have hcz12_1 : w9.cell? ⟨gb174, 1, none⟩ = some (.bool true) := (blk_cell BK174.out 1).trans rfl; have hcz12_2 : w9.cell? ⟨gb174, 2, none⟩ = some (.int .i64 a0_2) := (blk_cell BK174.out 2).trans rfl; have hfz12_0 := blk_frozen BK174.out 0; have hfz12_1 := blk_frozen BK174.out 1; have hfz12_2 := blk_frozen BK174.out 2) | ((with_reducible refine gate_dst (N := 9) rfl ?_); refine box_event ?hg (N := 9) ?hd (cs := #[.bool false, .string (⟨#[]⟩ : ByteArray), .int .i64 0]) (t := 35) ?hr ?_; (case hd => rfl); (case hg => rfl); (case hr => first | (go_simp; done) | (go_simp; rfl)); intro gb177 hg w13 hbox hb; have n0_ := Aside0.mk (blk_below (g := gb174) (o := .cells #[.slice A0_0 l0_0.length c0_0, .bool true, .int .i64 a0_2] 73 (0, 0)) (by (with_reducible repeat (first | refine blk_drewN ?_ _ | refine blk_drew ?_ | refine blk_alloc ?_ _)); exact BK174.out) hb); have n1_ := Aside0.mk (blk_below (g := gb175) (o := .cells #[.int .i64 a1_0, .int .i64 a1_1, .int .u64 a1_2, .string a1_3, .slice A1_4 l1_4.length c1_4] 27 (0, 0)) (by (with_reducible repeat (first | refine blk_drewN ?_ _ | refine blk_drew ?_ | refine blk_alloc ?_ _)); exact BK175.out) hb); have n2_ := Aside0.mk (blk_below (g := gb176) (o := .cells #[.int .i64 0, .int .i64 0, .int .u64 0, .string (⟨#[]⟩ : ByteArray), .slice none 0 0] 27 (0, 0)) (by (with_reducible repeat (first | refine blk_drewN ?_ _ | refine blk_drew ?_ | refine blk_alloc ?_ _)); exact BK176.out) hb); have n3_ := Aside0.mk (below_step (by repeat (first | (with_reducible first | exact HB.out | apply below_alloc | apply pw_below_drewN | apply below_drew1 | refine below_set ?_ GE174.out | refine below_set ?_ GE175.out | refine below_set ?_ GE176.out) | exact HB.out)) hb); have n4_ := Aside0.mk (hbox); have n5_ := Aside0.mk ((by rw [hg]; exact (below_size (by repeat (first | (with_reducible first | exact HB.out | apply below_alloc | apply pw_below_drewN | apply below_drew1 | refine below_set ?_ GE174.out | refine below_set ?_ GE175.out | refine below_set ?_ GE176.out) | exact HB.out))) : w.heap.size ≤ gb177)); have n6_ := Aside0.mk ((by rw [hg]; exact (below_size (by repeat (first | (with_reducible first | exact HB.out | apply below_alloc | apply pw_below_drewN | apply below_drew1 | refine below_set ?_ GE174.out | refine below_set ?_ GE175.out | refine below_set ?_ GE176.out) | exact HB.out))) : w.heap.size ≤ gb177)); have n7_ := Aside0.mk ((by rw [hg]; exact Nat.ne_of_lt (blk_lt (g := gb174) (o := .cells #[.slice A0_0 l0_0.length c0_0, .bool true, .int .i64 a0_2] 73 (0, 0)) (by (with_reducible repeat (first | refine blk_drewN ?_ _ | refine blk_drew ?_ | refine blk_alloc ?_ _)); exact BK174.out)) : gb174 ≠ gb177)); have n8_ := Aside0.mk ((by rw [hg]; exact Nat.ne_of_gt (blk_lt (g := gb174) (o := .cells #[.slice A0_0 l0_0.length c0_0, .bool true, .int .i64 a0_2] 73 (0, 0)) (by (with_reducible repeat (first | refine blk_drewN ?_ _ | refine blk_drew ?_ | refine blk_alloc ?_ _)); exact BK174.out)) : gb177 ≠ gb174)); have n9_ := Aside0.mk ((by rw [hg]; exact Nat.ne_of_lt (blk_lt (g := gb175) (o := .cells #[.int .i64 a1_0, .int .i64 a1_1, .int .u64 a1_2, .string a1_3, .slice A1_4 l1_4.length c1_4] 27 (0, 0)) (by (with_reducible repeat (first | refine blk_drewN ?_ _ | refine blk_drew ?_ | refine blk_alloc ?_ _)); exact BK175.out)) : gb175 ≠ gb177)); have n10_ := Aside0.mk ((by rw [hg]; exact Nat.ne_of_gt (blk_lt (g := gb175) (o := .cells #[.int .i64 a1_0, .int .i64 a1_1, .int .u64 a1_2, .string a1_3, .slice A1_4 l1_4.length c1_4] 27 (0, 0)) (by (with_reducible repeat (first | refine blk_drewN ?_ _ | refine blk_drew ?_ | refine blk_alloc ?_ _)); exact BK175.out)) : gb177 ≠ gb175)); have n11_ := Aside0.mk ((by rw [hg]; exact Nat.ne_of_lt (blk_lt (g := gb176) (o := .cells #[.int .i64 0, .int .i64 0, .int .u64 0, .string (⟨#[]⟩ : ByteArray), .slice none 0 0] 27 (0, 0)) (by (with_reducible repeat (first | refine blk_drewN ?_ _ | refine blk_drew ?_ | refine blk_alloc ?_ _)); exact BK176.out)) : gb176 ≠ gb177)); have n12_ := Aside0.mk ((by rw [hg]; exact Nat.ne_of_gt (blk_lt (g := gb176) (o := .cells #[.int .i64 0, .int .i64 0, .int .u64 0, .string (⟨#[]⟩ : ByteArray), .slice none 0 0] 27 (0, 0)) (by (with_reducible repeat (first | refine blk_drewN ?_ _ | refine blk_drew ?_ | refine blk_alloc ?_ _)); exact BK176.out)) : gb177 ≠ gb176)); clear BK174; clear BK175; clear BK176; clear HB; have BK174 := n0_; have BK175 := n1_; have BK176 := n2_; have HB := n3_; have BK177 := n4_; have GW177 := n5_; have GE177 := n6_; have NB174_177 := n7_; have NB177_174 := n8_; have NB175_177 := n9_; have NB177_175 := n10_; have NB176_177 := n11_; have NB177_176 := n12_; clear n0_ n1_ n2_ n3_ n4_ n5_ n6_ n7_ n8_ n9_ n10_ n11_ n12_; clear hb hbox hg; have hnb14 := NB177_174.out; have hnc14 := NB174_177.out; have hnb15 := NB177_175.out; have hnc15 := NB175_177.out; have hnb16 := NB177_176.out; have hnc16 := NB176_177.out; have hcz17_0 : w13.cell? ⟨gb177, 0, none⟩ = some (.bool false) := (blk_cell BK177.out 0).trans rfl; have hcz17_1 : w13.cell? ⟨gb177, 1, none⟩ = some (.string (⟨#[]⟩ : ByteArray)) := (blk_cell BK177.out 1).trans rfl; have hcz17_2 : w13.cell? ⟨gb177, 2, none⟩ = some (.int .i64 0) := (blk_cell BK177.out 2).trans rfl; have hfz17_0 := blk_frozen BK177.out 0; have hfz17_1 := blk_frozen BK177.out 1; have hfz17_2 := blk_frozen BK177.out 2; have hcz18_0 : w13.cell? ⟨gb174, 0, none⟩ = some (.slice A0_0 l0_0.length c0_0) := (blk_cell BK174.out 0).trans rfl; have hcz18_1 : w13.cell? ⟨gb174, 1, none⟩ = some (.bool true) := (blk_cell BK174.out 1).trans rfl; have hcz18_2 : w13.cell? ⟨gb174, 2, none⟩ = some (.int .i64 a0_2) := (blk_cell BK174.out 2).trans rfl; have hfz18_0 := blk_frozen BK174.out 0; have hfz18_1 := blk_frozen BK174.out 1; have hfz18_2 := blk_frozen BK174.out 2; have hnb19 := NB175_176.out; have hnc19 := NB176_175.out; have hcz20_0 : w13.cell? ⟨gb175, 0, none⟩ = some (.int .i64 a1_0) := (blk_cell BK175.out 0).trans rfl; have hcz20_1 : w13.cell? ⟨gb175, 1, none⟩ = some (.int .i64 a1_1) := (blk_cell BK175.out 1).trans rfl; have hcz20_2 : w13.cell? ⟨gb175, 2, none⟩ = some (.int .u64 a1_2) := (blk_cell BK175.out 2).trans rfl; have hcz20_3 : w13.cell? ⟨gb175, 3, none⟩ = some (.string a1_3) := (blk_cell BK175.out 3).trans rfl; have hcz20_4 : w13.cell? ⟨gb175, 4, none⟩ = some (.slice A1_4 l1_4.length c1_4) := (blk_cell BK175.out 4).trans rfl; have hfz20_0 := blk_frozen BK175.out 0; have hfz20_1 := blk_frozen BK175.out 1; have hfz20_2 := blk_frozen BK175.out 2; have hfz20_3 := blk_frozen BK175.out 3; have hfz20_4 := blk_frozen BK175.out 4) | ((with_reducible refine gate_callee (f := 67) rfl ?_); refine goesL_ (some 20) rfl rfl Try.func67 (by kernel_rfl) rfl #[.slice A1_4 l1_4.length c1_4, .agg #[.bool a2, .string a3, .int .i64 a0_2]] rfl (by (try simp only [List.map_toArray, List.map_cons, List.map_nil]); first | done | rfl | (simp only [List.length_drop, List.length_take]; rfl)) ?_; (with_reducible refine (chain_Add.calls _ _ l1_4 a2 a3 a0_2 t178 _ ?side1 ?side2 A6.out).mono ?_); (case side1 => exact Kd.C_below HR1_4.out (by repeat (first | (with_reducible first | exact HB.out | apply below_alloc | apply pw_below_drewN | apply below_drew1 | refine below_set ?_ GE174.out | refine below_set ?_ GE175.out | refine below_set ?_ GE176.out | refine below_set ?_ GE177.out) | exact HB.out))); (case side2 => exact HC1_4.out); rintro e w21 ⟨v179, rfl, ho0, hb⟩; refine ⟨_, rfl, ?_⟩; have n0_ := Aside0.mk (Kd.R_lower (Kd.R_newB ho0 (g := gb177) (o := .cells #[.bool a2, .string a3, .int .i64 a0_2] 35 (0, 0)) (by (with_reducible repeat (first | refine blk_drewN ?_ _ | refine blk_drew ?_ | refine blk_alloc ?_ _)); refine blk_put (cs := #[.bool a2, .string a3, .int .i64 0]) ?_ 2 _ rfl; (with_reducible repeat (first | refine blk_drewN ?_ _ | refine blk_drew ?_ | refine blk_alloc ?_ _)); refine blk_put (cs := #[.bool a2, .string (⟨#[]⟩ : ByteArray), .int .i64 0]) ?_ 1 _ rfl; (with_reducible repeat (first | refine blk_drewN ?_ _ | refine blk_drew ?_ | refine blk_alloc ?_ _)); refine blk_put (cs := #[.bool false, .string (⟨#[]⟩ : ByteArray), .int .i64 0]) ?_ 0 _ rfl; (with_reducible repeat (first | refine blk_drewN ?_ _ | refine blk_drew ?_ | refine blk_alloc ?_ _)); exact BK177.out)) (below_size (by repeat (first | (with_reducible first | exact HB.out | apply below_alloc | apply pw_below_drewN | apply below_drew1 | refine below_set ?_ GE174.out | refine below_set ?_ GE175.out | refine below_set ?_ GE176.out | refine below_set ?_ GE177.out) | exact HB.out)))); have n1_ := Aside0.mk (blk_below (g := gb174) (o := .cells #[.slice A0_0 l0_0.length c0_0, .bool true, .int .i64 a0_2] 73 (0, 0)) (by (with_reducible repeat (first | refine blk_drewN ?_ _ | refine blk_drew ?_ | refine blk_alloc ?_ _)); refine blk_far ?_ NB174_177.out _; (with_reducible repeat (first | refine blk_drewN ?_ _ | refine blk_drew ?_ | refine blk_alloc ?_ _)); refine blk_far ?_ NB174_177.out _; (with_reducible repeat (first | refine blk_drewN ?_ _ | refine blk_drew ?_ | refine blk_alloc ?_ _)); refine blk_far ?_ NB174_177.out _; (with_reducible repeat (first | refine blk_drewN ?_ _ | refine blk_drew ?_ | refine blk_alloc ?_ _)); exact BK174.out) hb); have n2_ := Aside0.mk (blk_below (g := gb175) (o := .cells #[.int .i64 a1_0, .int .i64 a1_1, .int .u64 a1_2, .string a1_3, .slice A1_4 l1_4.length c1_4] 27 (0, 0)) (by (with_reducible repeat (first | refine blk_drewN ?_ _ | refine blk_drew ?_ | refine blk_alloc ?_ _)); refine blk_far ?_ NB175_177.out _; (with_reducible repeat (first | refine blk_drewN ?_ _ | refine blk_drew ?_ | refine blk_alloc ?_ _)); refine blk_far ?_ NB175_177.out _; (with_reducible repeat (first | refine blk_drewN ?_ _ | refine blk_drew ?_ | refine blk_alloc ?_ _)); refine blk_far ?_ NB175_177.out _; (with_reducible repeat (first | refine blk_drewN ?_ _ | refine blk_drew ?_ | refine blk_alloc ?_ _)); exact BK175.out) hb); have n3_ := Aside0.mk (blk_below (g := gb176) (o := .cells #[.int .i64 0, .int .i64 0, .int .u64 0, .string (⟨#[]⟩ : ByteArray), .slice none 0 0] 27 (0, 0)) (by (with_reducible repeat (first | refine blk_drewN ?_ _ | refine blk_drew ?_ | refine blk_alloc ?_ _)); refine blk_far ?_ NB176_177.out _; (with_reducible repeat (first | refine blk_drewN ?_ _ | refine blk_drew ?_ | refine blk_alloc ?_ _)); refine blk_far ?_ NB176_177.out _; (with_reducible repeat (first | refine blk_drewN ?_ _ | refine blk_drew ?_ | refine blk_alloc ?_ _)); refine blk_far ?_ NB176_177.out _; (with_reducible repeat (first | refine blk_drewN ?_ _ | refine blk_drew ?_ | refine blk_alloc ?_ _)); exact BK176.out) hb); have n4_ := Aside0.mk (blk_below (g := gb177) (o := .cells #[.bool a2, .string a3, .int .i64 a0_2] 35 (0, 0)) (by (with_reducible repeat (first | refine blk_drewN ?_ _ | refine blk_drew ?_ | refine blk_alloc ?_ _)); refine blk_put (cs := #[.bool a2, .string a3, .int .i64 0]) ?_ 2 _ rfl; (with_reducible repeat (first | refine blk_drewN ?_ _ | refine blk_drew ?_ | refine blk_alloc ?_ _)); refine blk_put (cs := #[.bool a2, .string (⟨#[]⟩ : ByteArray), .int .i64 0]) ?_ 1 _ rfl; (with_reducible repeat (first | refine blk_drewN ?_ _ | refine blk_drew ?_ | refine blk_alloc ?_ _)); refine blk_put (cs := #[.bool false, .string (⟨#[]⟩ : ByteArray), .int .i64 0]) ?_ 0 _ rfl; (with_reducible repeat (first | refine blk_drewN ?_ _ | refine blk_drew ?_ | refine blk_alloc ?_ _)); exact BK177.out) hb); have n5_ := Aside0.mk (below_step (by repeat (first | (with_reducible first | exact HB.out | apply below_alloc | apply pw_below_drewN | apply below_drew1 | refine below_set ?_ GE174.out | refine below_set ?_ GE175.out | refine below_set ?_ GE176.out | refine below_set ?_ GE177.out) | exact HB.out)) hb); clear BK174; clear BK175; clear BK176; clear BK177; clear HB; have HO180 := n0_; have BK174 := n1_; have BK175 := n2_; have BK176 := n3_; have BK177 := n4_; have HB := n5_; clear n0_ n1_ n2_ n3_ n4_ n5_; (try clear hb); (try clear hb2); (try clear hk); (try clear hi); (try clear ho0); obtain ⟨Ao22, co22, eo22⟩ := Kd.R_slice HO180.out; subst eo22; have hcz23_0 : w21.cell? ⟨gb175, 0, none⟩ = some (.int .i64 a1_0) := (blk_cell BK175.out 0).trans rfl; have hcz23_1 : w21.cell? ⟨gb175, 1, none⟩ = some (.int .i64 a1_1) := (blk_cell BK175.out 1).trans rfl; have hcz23_2 : w21.cell? ⟨gb175, 2, none⟩ = some (.int .u64 a1_2) := (blk_cell BK175.out 2).trans rfl; have hcz23_3 : w21.cell? ⟨gb175, 3, none⟩ = some (.string a1_3) := (blk_cell BK175.out 3).trans rfl; have hcz23_4 : w21.cell? ⟨gb175, 4, none⟩ = some (.slice A1_4 l1_4.length c1_4) := (blk_cell BK175.out 4).trans rfl; have hfz23_0 := blk_frozen BK175.out 0; have hfz23_1 := blk_frozen BK175.out 1; have hfz23_2 := blk_frozen BK175.out 2; have hfz23_3 := blk_frozen BK175.out 3; have hfz23_4 := blk_frozen BK175.out 4; have hcz24_0 : w21.cell? ⟨gb176, 0, none⟩ = some (.int .i64 0) := (blk_cell BK176.out 0).trans rfl; have hcz24_1 : w21.cell? ⟨gb176, 1, none⟩ = some (.int .i64 0) := (blk_cell BK176.out 1).trans rfl; have hcz24_2 : w21.cell? ⟨gb176, 2, none⟩ = some (.int .u64 0) := (blk_cell BK176.out 2).trans rfl; have hcz24_3 : w21.cell? ⟨gb176, 3, none⟩ = some (.string (⟨#[]⟩ : ByteArray)) := (blk_cell BK176.out 3).trans rfl; have hcz24_4 : w21.cell? ⟨gb176, 4, none⟩ = some (.slice none 0 0) := (blk_cell BK176.out 4).trans rfl; have hfz24_0 := blk_frozen BK176.out 0; have hfz24_1 := blk_frozen BK176.out 1; have hfz24_2 := blk_frozen BK176.out 2; have hfz24_3 := blk_frozen BK176.out 3; have hfz24_4 := blk_frozen BK176.out 4))
  refine bodyPost_ret (results_cell_row rfl _ _ gb176 27 #[.int .i64 a1_0, .int .i64 a1_1, .int .u64 a1_2, .string a1_3, .slice Ao22 t178.length co22] (0, 0) _ rfl (by (with_reducible repeat (first | refine blk_drewN ?_ _ | refine blk_drew ?_ | refine blk_alloc ?_ _)); refine blk_put (cs := #[.int .i64 a1_0, .int .i64 a1_1, .int .u64 a1_2, .string a1_3, .slice none 0 0]) ?_ 4 _ rfl; (with_reducible repeat (first | refine blk_drewN ?_ _ | refine blk_drew ?_ | refine blk_alloc ?_ _)); refine blk_put (cs := #[.int .i64 a1_0, .int .i64 a1_1, .int .u64 a1_2, .string (⟨#[]⟩ : ByteArray), .slice none 0 0]) ?_ 3 _ rfl; (with_reducible repeat (first | refine blk_drewN ?_ _ | refine blk_drew ?_ | refine blk_alloc ?_ _)); refine blk_put (cs := #[.int .i64 a1_0, .int .i64 a1_1, .int .u64 0, .string (⟨#[]⟩ : ByteArray), .slice none 0 0]) ?_ 2 _ rfl; (with_reducible repeat (first | refine blk_drewN ?_ _ | refine blk_drew ?_ | refine blk_alloc ?_ _)); refine blk_put (cs := #[.int .i64 a1_0, .int .i64 0, .int .u64 0, .string (⟨#[]⟩ : ByteArray), .slice none 0 0]) ?_ 1 _ rfl; (with_reducible repeat (first | refine blk_drewN ?_ _ | refine blk_drew ?_ | refine blk_alloc ?_ _)); refine blk_put (cs := #[.int .i64 0, .int .i64 0, .int .u64 0, .string (⟨#[]⟩ : ByteArray), .slice none 0 0]) ?_ 0 _ rfl; (with_reducible repeat (first | refine blk_drewN ?_ _ | refine blk_drew ?_ | refine blk_alloc ?_ _)); refine blk_far ?_ NB176_175.out _; (with_reducible repeat (first | refine blk_drewN ?_ _ | refine blk_drew ?_ | refine blk_alloc ?_ _)); exact BK176.out) Try.underlying27 rfl (by kernel_rfl)) rfl ?_
  exact ⟨_, by first | rfl | (simp [errW_none, errW_some] <;> rfl) | (simp [*, errW_none, errW_some] <;> rfl), by (with_reducible repeat (first | apply Kd.R_alloc | apply Kd.R_drewN | apply Kd.R_drew)); exact Kd.R_mono (Kd.R_far (p := ⟨gb176, 4, none⟩) (Kd.R_far (p := ⟨gb176, 3, none⟩) (Kd.R_far (p := ⟨gb176, 2, none⟩) (Kd.R_far (p := ⟨gb176, 1, none⟩) (Kd.R_far (p := ⟨gb176, 0, none⟩) (Kd.R_far (p := ⟨gb175, 4, none⟩) (Kd.R_types (Kd.R_types HO180.out BK175.out (by decide)) BK176.out (by decide)) (fun _ hk => hk.1.2) (.slice Ao22 t178.length co22)) (fun _ hk => hk.2) (.int .i64 a1_0)) (fun _ hk => hk.2) (.int .i64 a1_1)) (fun _ hk => hk.2) (.int .u64 a1_2)) (fun _ hk => hk.2) (.string a1_3)) (fun _ hk => hk.2) (.slice Ao22 t178.length co22)) (fun _ hk => trivial), by repeat (first | (with_reducible first | exact HB.out | apply below_alloc | apply pw_below_drewN | apply below_drew1 | refine below_set ?_ GE174.out | refine below_set ?_ GE175.out | refine below_set ?_ GE176.out | refine below_set ?_ GE177.out) | exact HB.out)⟩
 ·
  replace c5 := Bool.eq_false_iff.mpr c5
  subst c5
  have H1 : ((api_Layer_52.f l1_4).bind fun t181 => ((some (([(⟨a2, a3, a0_2⟩ : S35)] : List (S35)) : List (S35))).bind fun y184 => (if t181.length + y184.length < 4398046511104 then (some (a1_0, a1_1, a1_2, a1_3, (t181 ++ y184))) else (none)))) = some (r1, r2, r3, r4, r5) := by rw [if_neg (show ¬ (false = true) by decide)] at H; exact H
  clear H
  have H := H1
  clear H1
  replace H := Option.bind_eq_some_iff.mp H
  obtain ⟨t181, A250, H⟩ := H
  replace H : ((some (([(⟨a2, a3, a0_2⟩ : S35)] : List (S35)) : List (S35))).bind fun y184 => (if t181.length + y184.length < 4398046511104 then (some (a1_0, a1_1, a1_2, a1_3, (t181 ++ y184))) else (none))) = some (r1, r2, r3, r4, r5) := H
  have A25 := Aside0.mk A250
  clear A250
  obtain ⟨y184, hy184⟩ : ∃ y_ : List (S35), y_ = (([(⟨a2, a3, a0_2⟩ : S35)] : List (S35))) := ⟨_, rfl⟩
  replace H : (if t181.length + y184.length < 4398046511104 then (some (a1_0, a1_1, a1_2, a1_3, (t181 ++ y184))) else (none)) = some (r1, r2, r3, r4, r5) := by first | (rw [hy184]; with_reducible exact H) | (have H2_ := (Option.bind_some _ _).symm.trans H; rw [hy184]; with_reducible exact H2_) | (have H2_ := (Option.bind_some _ _).symm.trans H; with_reducible exact H2_) | with_reducible exact H | (rw [hy184]; exact H) | exact H
  have Ny184 := Aside0.mk hy184
  clear hy184
  by_cases c26 : t181.length + y184.length < 4398046511104
  ·
   rw [if_pos c26] at H
   have LMc26 := Aside0.mk c26
   clear c26
   obtain ⟨y187, hy187⟩ : ∃ y_ : List (S35), y_ = (t181 ++ y184) := ⟨_, rfl⟩
   replace H : (some (a1_0, a1_1, a1_2, a1_3, y187)) = some (r1, r2, r3, r4, r5) := by first | (rw [hy187]; with_reducible exact H) | (have H2_ := (Option.bind_some _ _).symm.trans H; rw [hy187]; with_reducible exact H2_) | (have H2_ := (Option.bind_some _ _).symm.trans H; with_reducible exact H2_) | with_reducible exact H | (rw [hy187]; exact H) | exact H
   have Ny187 := Aside0.mk hy187
   clear hy187
   simp only [Option.some.injEq, Prod.mk.injEq] at H
   obtain ⟨rfl, rfl, rfl, rfl, rfl⟩ := H
   go_enter Try.func53, Try.ntmps53
   try go_wp2_with (first | ((with_reducible refine gate_dst (N := 4) rfl ?_); refine box_event ?hg (N := 4) ?hd (cs := #[.slice A0_0 l0_0.length c0_0, .bool false, .int .i64 a0_2]) (t := 73) ?hr ?_; (case hd => rfl); (case hg => rfl); (case hr => first | (go_simp; done) | (go_simp; rfl)); intro gb174 hg w27 hbox hb; have n0_ := Aside0.mk (below_step (by repeat (first | (with_reducible first | exact HB.out | apply below_alloc | apply pw_below_drewN | apply below_drew1) | exact HB.out)) hb); have n1_ := Aside0.mk (hbox); have n2_ := Aside0.mk ((by rw [hg]; exact (below_size (by repeat (first | (with_reducible first | exact HB.out | apply below_alloc | apply pw_below_drewN | apply below_drew1) | exact HB.out))) : w.heap.size ≤ gb174)); have n3_ := Aside0.mk ((by rw [hg]; exact (below_size (by repeat (first | (with_reducible first | exact HB.out | apply below_alloc | apply pw_below_drewN | apply below_drew1) | exact HB.out))) : w.heap.size ≤ gb174)); clear HB; have HB := n0_; have BK174 := n1_; have GW174 := n2_; have GE174 := n3_; clear n0_ n1_ n2_ n3_; clear hb hbox hg) | ((with_reducible refine gate_dst (N := 5) rfl ?_); refine box_event ?hg (N := 5) ?hd (cs := #[.int .i64 a1_0, .int .i64 a1_1, .int .u64 a1_2, .string a1_3, .slice A1_4 l1_4.length c1_4]) (t := 27) ?hr ?_; (case hd => rfl); (case hg => rfl); (case hr => first | (go_simp; done) | (go_simp; rfl)); intro gb175 hg w28 hbox hb; have n0_ := Aside0.mk (blk_below (g := gb174) (o := .cells #[.slice A0_0 l0_0.length c0_0, .bool false, .int .i64 a0_2] 73 (0, 0)) (by (with_reducible repeat (first | refine blk_drewN ?_ _ | refine blk_drew ?_ | refine blk_alloc ?_ _)); exact BK174.out) hb); have n1_ := Aside0.mk (below_step (by repeat (first | (with_reducible first | exact HB.out | apply below_alloc | apply pw_below_drewN | apply below_drew1 | refine below_set ?_ GE174.out) | exact HB.out)) hb); have n2_ := Aside0.mk (hbox); have n3_ := Aside0.mk ((by rw [hg]; exact (below_size (by repeat (first | (with_reducible first | exact HB.out | apply below_alloc | apply pw_below_drewN | apply below_drew1 | refine below_set ?_ GE174.out) | exact HB.out))) : w.heap.size ≤ gb175)); have n4_ := Aside0.mk ((by rw [hg]; exact (below_size (by repeat (first | (with_reducible first | exact HB.out | apply below_alloc | apply pw_below_drewN | apply below_drew1 | refine below_set ?_ GE174.out) | exact HB.out))) : w.heap.size ≤ gb175)); have n5_ := Aside0.mk ((by rw [hg]; exact Nat.ne_of_lt (blk_lt (g := gb174) (o := .cells #[.slice A0_0 l0_0.length c0_0, .bool false, .int .i64 a0_2] 73 (0, 0)) (by (with_reducible repeat (first | refine blk_drewN ?_ _ | refine blk_drew ?_ | refine blk_alloc ?_ _)); exact BK174.out)) : gb174 ≠ gb175)); have n6_ := Aside0.mk ((by rw [hg]; exact Nat.ne_of_gt (blk_lt (g := gb174) (o := .cells #[.slice A0_0 l0_0.length c0_0, .bool false, .int .i64 a0_2] 73 (0, 0)) (by (with_reducible repeat (first | refine blk_drewN ?_ _ | refine blk_drew ?_ | refine blk_alloc ?_ _)); exact BK174.out)) : gb175 ≠ gb174)); clear BK174; clear HB; have BK174 := n0_; have HB := n1_; have BK175 := n2_; have GW175 := n3_; have GE175 := n4_; have NB174_175 := n5_; have NB175_174 := n6_; clear n0_ n1_ n2_ n3_ n4_ n5_ n6_; clear hb hbox hg) | ((with_reducible refine gate_dst (N := 8) rfl ?_); refine box_event ?hg (N := 8) ?hd (cs := #[.int .i64 0, .int .i64 0, .int .u64 0, .string (⟨#[]⟩ : ByteArray), .slice none 0 0]) (t := 27) ?hr ?_; (case hd => rfl); (case hg => rfl); (case hr => first | (go_simp; done) | (go_simp; rfl)); intro gb176 hg w29 hbox hb; have n0_ := Aside0.mk (blk_below (g := gb174) (o := .cells #[.slice A0_0 l0_0.length c0_0, .bool false, .int .i64 a0_2] 73 (0, 0)) (by (with_reducible repeat (first | refine blk_drewN ?_ _ | refine blk_drew ?_ | refine blk_alloc ?_ _)); exact BK174.out) hb); have n1_ := Aside0.mk (blk_below (g := gb175) (o := .cells #[.int .i64 a1_0, .int .i64 a1_1, .int .u64 a1_2, .string a1_3, .slice A1_4 l1_4.length c1_4] 27 (0, 0)) (by (with_reducible repeat (first | refine blk_drewN ?_ _ | refine blk_drew ?_ | refine blk_alloc ?_ _)); exact BK175.out) hb); have n2_ := Aside0.mk (below_step (by repeat (first | (with_reducible first | exact HB.out | apply below_alloc | apply pw_below_drewN | apply below_drew1 | refine below_set ?_ GE174.out | refine below_set ?_ GE175.out) | exact HB.out)) hb); have n3_ := Aside0.mk (hbox); have n4_ := Aside0.mk ((by rw [hg]; exact (below_size (by repeat (first | (with_reducible first | exact HB.out | apply below_alloc | apply pw_below_drewN | apply below_drew1 | refine below_set ?_ GE174.out | refine below_set ?_ GE175.out) | exact HB.out))) : w.heap.size ≤ gb176)); have n5_ := Aside0.mk ((by rw [hg]; exact (below_size (by repeat (first | (with_reducible first | exact HB.out | apply below_alloc | apply pw_below_drewN | apply below_drew1 | refine below_set ?_ GE174.out | refine below_set ?_ GE175.out) | exact HB.out))) : w.heap.size ≤ gb176)); have n6_ := Aside0.mk ((by rw [hg]; exact Nat.ne_of_lt (blk_lt (g := gb174) (o := .cells #[.slice A0_0 l0_0.length c0_0, .bool false, .int .i64 a0_2] 73 (0, 0)) (by (with_reducible repeat (first | refine blk_drewN ?_ _ | refine blk_drew ?_ | refine blk_alloc ?_ _)); exact BK174.out)) : gb174 ≠ gb176)); have n7_ := Aside0.mk ((by rw [hg]; exact Nat.ne_of_gt (blk_lt (g := gb174) (o := .cells #[.slice A0_0 l0_0.length c0_0, .bool false, .int .i64 a0_2] 73 (0, 0)) (by (with_reducible repeat (first | refine blk_drewN ?_ _ | refine blk_drew ?_ | refine blk_alloc ?_ _)); exact BK174.out)) : gb176 ≠ gb174)); have n8_ := Aside0.mk ((by rw [hg]; exact Nat.ne_of_lt (blk_lt (g := gb175) (o := .cells #[.int .i64 a1_0, .int .i64 a1_1, .int .u64 a1_2, .string a1_3, .slice A1_4 l1_4.length c1_4] 27 (0, 0)) (by (with_reducible repeat (first | refine blk_drewN ?_ _ | refine blk_drew ?_ | refine blk_alloc ?_ _)); exact BK175.out)) : gb175 ≠ gb176)); have n9_ := Aside0.mk ((by rw [hg]; exact Nat.ne_of_gt (blk_lt (g := gb175) (o := .cells #[.int .i64 a1_0, .int .i64 a1_1, .int .u64 a1_2, .string a1_3, .slice A1_4 l1_4.length c1_4] 27 (0, 0)) (by (with_reducible repeat (first | refine blk_drewN ?_ _ | refine blk_drew ?_ | refine blk_alloc ?_ _)); exact BK175.out)) : gb176 ≠ gb175)); clear BK174; clear BK175; clear HB; have BK174 := n0_; have BK175 := n1_; have HB := n2_; have BK176 := n3_; have GW176 := n4_; have GE176 := n5_; have NB174_176 := n6_; have NB176_174 := n7_; have NB175_176 := n8_; have NB176_175 := n9_; clear n0_ n1_ n2_ n3_ n4_ n5_ n6_ n7_ n8_ n9_; clear hb hbox hg; have hnb30 := NB174_175.out; have hnc30 := NB175_174.out; have hnb31 := NB174_176.out; have hnc31 := NB176_174.out; have hcz32_0 : w29.cell? ⟨gb174, 0, none⟩ = some (.slice A0_0 l0_0.length c0_0) := (blk_cell BK174.out 0).trans rfl; have hcz32_1 : w29.cell? ⟨gb174, 1, none⟩ = some (.bool false) := (blk_cell BK174.out 1).trans rfl; have hcz32_2 : w29.cell? ⟨gb174, 2, none⟩ = some (.int .i64 a0_2) := (blk_cell BK174.out 2).trans rfl; have hfz32_0 := blk_frozen BK174.out 0; have hfz32_1 := blk_frozen BK174.out 1; have hfz32_2 := blk_frozen BK174.out 2) | ((with_reducible refine gate_dst (N := 9) rfl ?_); refine box_event ?hg (N := 9) ?hd (cs := #[.bool false, .string (⟨#[]⟩ : ByteArray), .int .i64 0]) (t := 35) ?hr ?_; (case hd => rfl); (case hg => rfl); (case hr => first | (go_simp; done) | (go_simp; rfl)); intro gb177 hg w33 hbox hb; have n0_ := Aside0.mk (blk_below (g := gb174) (o := .cells #[.slice A0_0 l0_0.length c0_0, .bool false, .int .i64 a0_2] 73 (0, 0)) (by (with_reducible repeat (first | refine blk_drewN ?_ _ | refine blk_drew ?_ | refine blk_alloc ?_ _)); exact BK174.out) hb); have n1_ := Aside0.mk (blk_below (g := gb175) (o := .cells #[.int .i64 a1_0, .int .i64 a1_1, .int .u64 a1_2, .string a1_3, .slice A1_4 l1_4.length c1_4] 27 (0, 0)) (by (with_reducible repeat (first | refine blk_drewN ?_ _ | refine blk_drew ?_ | refine blk_alloc ?_ _)); exact BK175.out) hb); have n2_ := Aside0.mk (blk_below (g := gb176) (o := .cells #[.int .i64 0, .int .i64 0, .int .u64 0, .string (⟨#[]⟩ : ByteArray), .slice none 0 0] 27 (0, 0)) (by (with_reducible repeat (first | refine blk_drewN ?_ _ | refine blk_drew ?_ | refine blk_alloc ?_ _)); exact BK176.out) hb); have n3_ := Aside0.mk (below_step (by repeat (first | (with_reducible first | exact HB.out | apply below_alloc | apply pw_below_drewN | apply below_drew1 | refine below_set ?_ GE174.out | refine below_set ?_ GE175.out | refine below_set ?_ GE176.out) | exact HB.out)) hb); have n4_ := Aside0.mk (hbox); have n5_ := Aside0.mk ((by rw [hg]; exact (below_size (by repeat (first | (with_reducible first | exact HB.out | apply below_alloc | apply pw_below_drewN | apply below_drew1 | refine below_set ?_ GE174.out | refine below_set ?_ GE175.out | refine below_set ?_ GE176.out) | exact HB.out))) : w.heap.size ≤ gb177)); have n6_ := Aside0.mk ((by rw [hg]; exact (below_size (by repeat (first | (with_reducible first | exact HB.out | apply below_alloc | apply pw_below_drewN | apply below_drew1 | refine below_set ?_ GE174.out | refine below_set ?_ GE175.out | refine below_set ?_ GE176.out) | exact HB.out))) : w.heap.size ≤ gb177)); have n7_ := Aside0.mk ((by rw [hg]; exact Nat.ne_of_lt (blk_lt (g := gb174) (o := .cells #[.slice A0_0 l0_0.length c0_0, .bool false, .int .i64 a0_2] 73 (0, 0)) (by (with_reducible repeat (first | refine blk_drewN ?_ _ | refine blk_drew ?_ | refine blk_alloc ?_ _)); exact BK174.out)) : gb174 ≠ gb177)); have n8_ := Aside0.mk ((by rw [hg]; exact Nat.ne_of_gt (blk_lt (g := gb174) (o := .cells #[.slice A0_0 l0_0.length c0_0, .bool false, .int .i64 a0_2] 73 (0, 0)) (by (with_reducible repeat (first | refine blk_drewN ?_ _ | refine blk_drew ?_ | refine blk_alloc ?_ _)); exact BK174.out)) : gb177 ≠ gb174)); have n9_ := Aside0.mk ((by rw [hg]; exact Nat.ne_of_lt (blk_lt (g := gb175) (o := .cells #[.int .i64 a1_0, .int .i64 a1_1, .int .u64 a1_2, .string a1_3, .slice A1_4 l1_4.length c1_4] 27 (0, 0)) (by (with_reducible repeat (first | refine blk_drewN ?_ _ | refine blk_drew ?_ | refine blk_alloc ?_ _)); exact BK175.out)) : gb175 ≠ gb177)); have n10_ := Aside0.mk ((by rw [hg]; exact Nat.ne_of_gt (blk_lt (g := gb175) (o := .cells #[.int .i64 a1_0, .int .i64 a1_1, .int .u64 a1_2, .string a1_3, .slice A1_4 l1_4.length c1_4] 27 (0, 0)) (by (with_reducible repeat (first | refine blk_drewN ?_ _ | refine blk_drew ?_ | refine blk_alloc ?_ _)); exact BK175.out)) : gb177 ≠ gb175)); have n11_ := Aside0.mk ((by rw [hg]; exact Nat.ne_of_lt (blk_lt (g := gb176) (o := .cells #[.int .i64 0, .int .i64 0, .int .u64 0, .string (⟨#[]⟩ : ByteArray), .slice none 0 0] 27 (0, 0)) (by (with_reducible repeat (first | refine blk_drewN ?_ _ | refine blk_drew ?_ | refine blk_alloc ?_ _)); exact BK176.out)) : gb176 ≠ gb177)); have n12_ := Aside0.mk ((by rw [hg]; exact Nat.ne_of_gt (blk_lt (g := gb176) (o := .cells #[.int .i64 0, .int .i64 0, .int .u64 0, .string (⟨#[]⟩ : ByteArray), .slice none 0 0] 27 (0, 0)) (by (with_reducible repeat (first | refine blk_drewN ?_ _ | refine blk_drew ?_ | refine blk_alloc ?_ _)); exact BK176.out)) : gb177 ≠ gb176)); clear BK174; clear BK175; clear BK176; clear HB; have BK174 := n0_; have BK175 := n1_; have BK176 := n2_; have HB := n3_; have BK177 := n4_; have GW177 := n5_; have GE177 := n6_; have NB174_177 := n7_; have NB177_174 := n8_; have NB175_177 := n9_; have NB177_175 := n10_; have NB176_177 := n11_; have NB177_176 := n12_; clear n0_ n1_ n2_ n3_ n4_ n5_ n6_ n7_ n8_ n9_ n10_ n11_ n12_; clear hb hbox hg; have hnb34 := NB177_174.out; have hnc34 := NB174_177.out; have hnb35 := NB177_175.out; have hnc35 := NB175_177.out; have hnb36 := NB177_176.out; have hnc36 := NB176_177.out; have hcz37_0 : w33.cell? ⟨gb177, 0, none⟩ = some (.bool false) := (blk_cell BK177.out 0).trans rfl; have hcz37_1 : w33.cell? ⟨gb177, 1, none⟩ = some (.string (⟨#[]⟩ : ByteArray)) := (blk_cell BK177.out 1).trans rfl; have hcz37_2 : w33.cell? ⟨gb177, 2, none⟩ = some (.int .i64 0) := (blk_cell BK177.out 2).trans rfl; have hfz37_0 := blk_frozen BK177.out 0; have hfz37_1 := blk_frozen BK177.out 1; have hfz37_2 := blk_frozen BK177.out 2; have hcz38_0 : w33.cell? ⟨gb174, 0, none⟩ = some (.slice A0_0 l0_0.length c0_0) := (blk_cell BK174.out 0).trans rfl; have hcz38_1 : w33.cell? ⟨gb174, 1, none⟩ = some (.bool false) := (blk_cell BK174.out 1).trans rfl; have hcz38_2 : w33.cell? ⟨gb174, 2, none⟩ = some (.int .i64 a0_2) := (blk_cell BK174.out 2).trans rfl; have hfz38_0 := blk_frozen BK174.out 0; have hfz38_1 := blk_frozen BK174.out 1; have hfz38_2 := blk_frozen BK174.out 2))
   have n0_ : Aside0 ((((w33.setCell ⟨gb177, 0, none⟩ (.bool a2)).setCell ⟨gb177, 1, none⟩ (.string a3)).setCell ⟨gb177, 2, none⟩ (.int .i64 a0_2)).heap[gb174]? = some (.cells #[.slice A0_0 l0_0.length c0_0, .bool false, .int .i64 a0_2] 73 (0, 0))) := ⟨by (with_reducible repeat (first | refine blk_drewN ?_ _ | refine blk_drew ?_ | refine blk_alloc ?_ _)); refine blk_far ?_ NB174_177.out _; (with_reducible repeat (first | refine blk_drewN ?_ _ | refine blk_drew ?_ | refine blk_alloc ?_ _)); refine blk_far ?_ NB174_177.out _; (with_reducible repeat (first | refine blk_drewN ?_ _ | refine blk_drew ?_ | refine blk_alloc ?_ _)); refine blk_far ?_ NB174_177.out _; (with_reducible repeat (first | refine blk_drewN ?_ _ | refine blk_drew ?_ | refine blk_alloc ?_ _)); exact BK174.out⟩
   have n1_ : Aside0 ((((w33.setCell ⟨gb177, 0, none⟩ (.bool a2)).setCell ⟨gb177, 1, none⟩ (.string a3)).setCell ⟨gb177, 2, none⟩ (.int .i64 a0_2)).heap[gb175]? = some (.cells #[.int .i64 a1_0, .int .i64 a1_1, .int .u64 a1_2, .string a1_3, .slice A1_4 l1_4.length c1_4] 27 (0, 0))) := ⟨by (with_reducible repeat (first | refine blk_drewN ?_ _ | refine blk_drew ?_ | refine blk_alloc ?_ _)); refine blk_far ?_ NB175_177.out _; (with_reducible repeat (first | refine blk_drewN ?_ _ | refine blk_drew ?_ | refine blk_alloc ?_ _)); refine blk_far ?_ NB175_177.out _; (with_reducible repeat (first | refine blk_drewN ?_ _ | refine blk_drew ?_ | refine blk_alloc ?_ _)); refine blk_far ?_ NB175_177.out _; (with_reducible repeat (first | refine blk_drewN ?_ _ | refine blk_drew ?_ | refine blk_alloc ?_ _)); exact BK175.out⟩
   have n2_ : Aside0 ((((w33.setCell ⟨gb177, 0, none⟩ (.bool a2)).setCell ⟨gb177, 1, none⟩ (.string a3)).setCell ⟨gb177, 2, none⟩ (.int .i64 a0_2)).heap[gb176]? = some (.cells #[.int .i64 0, .int .i64 0, .int .u64 0, .string (⟨#[]⟩ : ByteArray), .slice none 0 0] 27 (0, 0))) := ⟨by (with_reducible repeat (first | refine blk_drewN ?_ _ | refine blk_drew ?_ | refine blk_alloc ?_ _)); refine blk_far ?_ NB176_177.out _; (with_reducible repeat (first | refine blk_drewN ?_ _ | refine blk_drew ?_ | refine blk_alloc ?_ _)); refine blk_far ?_ NB176_177.out _; (with_reducible repeat (first | refine blk_drewN ?_ _ | refine blk_drew ?_ | refine blk_alloc ?_ _)); refine blk_far ?_ NB176_177.out _; (with_reducible repeat (first | refine blk_drewN ?_ _ | refine blk_drew ?_ | refine blk_alloc ?_ _)); exact BK176.out⟩
   have n3_ : Aside0 ((((w33.setCell ⟨gb177, 0, none⟩ (.bool a2)).setCell ⟨gb177, 1, none⟩ (.string a3)).setCell ⟨gb177, 2, none⟩ (.int .i64 a0_2)).heap[gb177]? = some (.cells #[.bool a2, .string a3, .int .i64 a0_2] 35 (0, 0))) := ⟨by (with_reducible repeat (first | refine blk_drewN ?_ _ | refine blk_drew ?_ | refine blk_alloc ?_ _)); refine blk_put (cs := #[.bool a2, .string a3, .int .i64 0]) ?_ 2 _ rfl; (with_reducible repeat (first | refine blk_drewN ?_ _ | refine blk_drew ?_ | refine blk_alloc ?_ _)); refine blk_put (cs := #[.bool a2, .string (⟨#[]⟩ : ByteArray), .int .i64 0]) ?_ 1 _ rfl; (with_reducible repeat (first | refine blk_drewN ?_ _ | refine blk_drew ?_ | refine blk_alloc ?_ _)); refine blk_put (cs := #[.bool false, .string (⟨#[]⟩ : ByteArray), .int .i64 0]) ?_ 0 _ rfl; (with_reducible repeat (first | refine blk_drewN ?_ _ | refine blk_drew ?_ | refine blk_alloc ?_ _)); exact BK177.out⟩
   have n4_ : Aside0 (Below w.heap.size w (((w33.setCell ⟨gb177, 0, none⟩ (.bool a2)).setCell ⟨gb177, 1, none⟩ (.string a3)).setCell ⟨gb177, 2, none⟩ (.int .i64 a0_2))) := ⟨by repeat (first | (with_reducible first | exact HB.out | apply below_alloc | apply pw_below_drewN | apply below_drew1 | refine below_set ?_ GE174.out | refine below_set ?_ GE175.out | refine below_set ?_ GE176.out | refine below_set ?_ GE177.out) | exact HB.out)⟩
   (try clear BK174)
   (try clear BK175)
   (try clear BK176)
   (try clear BK177)
   (try clear HB)
   generalize (((w33.setCell ⟨gb177, 0, none⟩ (.bool a2)).setCell ⟨gb177, 1, none⟩ (.string a3)).setCell ⟨gb177, 2, none⟩ (.int .i64 a0_2)) = w39 at n0_ n1_ n2_ n3_ n4_ ⊢
   have BK174 := n0_
   have BK175 := n1_
   have BK176 := n2_
   have BK177 := n3_
   have HB := n4_
   clear n0_ n1_ n2_ n3_ n4_
   have n0_ := Aside0.mk (blk_drew BK174.out)
   have n1_ := Aside0.mk (blk_drew BK175.out)
   have n2_ := Aside0.mk (blk_drew BK176.out)
   have n3_ := Aside0.mk (blk_drew BK177.out)
   have n4_ := Aside0.mk (below_drew1 HB.out)
   clear BK174
   clear BK175
   clear BK176
   clear BK177
   clear HB
   have BK174 := n0_
   have BK175 := n1_
   have BK176 := n2_
   have BK177 := n3_
   have HB := n4_
   clear n0_ n1_ n2_ n3_ n4_
   refine start_ (n := 8) (S := fun w' => w'.cell? ⟨gb175, 0, none⟩ = some (.int .i64 a1_0) ∧ w'.cell? ⟨gb175, 1, none⟩ = some (.int .i64 a1_1) ∧ w'.cell? ⟨gb175, 2, none⟩ = some (.int .u64 a1_2) ∧ w'.cell? ⟨gb175, 3, none⟩ = some (.string a1_3) ∧ w'.cell? ⟨gb175, 4, none⟩ = some (.slice A1_4 l1_4.length c1_4) ∧ w'.cell? ⟨gb177, 0, none⟩ = some (.bool a2) ∧ w'.cell? ⟨gb177, 1, none⟩ = some (.string a3) ∧ w'.cell? ⟨gb177, 2, none⟩ = some (.int .i64 a0_2)) (ds := [7]) #[false, false, false, false, false, false, false, false] (by kernel_rfl) rfl rfl ⟨(blk_cell BK175.out 0).trans rfl, (blk_cell BK175.out 1).trans rfl, (blk_cell BK175.out 2).trans rfl, (blk_cell BK175.out 3).trans rfl, (blk_cell BK175.out 4).trans rfl, (blk_cell BK177.out 0).trans rfl, (blk_cell BK177.out 1).trans rfl, (blk_cell BK177.out 2).trans rfl⟩ (fun hHeld => ?_); refine with_tabW coerce_caster_behind.tab4 coerce_caster_behind.bits4 (fun HT_ HW_ => ?_)
   generalize w39.drew = w40 at BK174 BK175 BK176 BK177 HB hHeld ⊢
   refine pure_ (i := 0) (N := some 22) (v := ?_) (a' := ?_) #[true, false, false, false, false, false, false, false] rfl rfl (any_of HT_.out (by kernel_rfl)) (fun _ _ _ h => h) (Or.inl ⟨by rfl, ?_⟩) ?_ ?_
   rotate_left
   ·
    intro w'
    go_simp
    with_reducible rfl
   rotate_left
   ·
    simp only [Act.put, List.setIfInBounds_toArray, List.set_cons_zero, List.set_cons_succ, i64_w, i32_w]
    rfl
   refine take_ (i := 1) (N := some 23) (v := ?_) (a' := ?_) #[true, true, false, false, false, false, false, false] rfl rfl (take_ofW HT_.out HW_.out (by kernel_rfl)) (fun _ _ _ h => h) (Or.inl ⟨by rfl, ?_⟩) hHeld ?_ ?_
   rotate_left
   ·
    rintro w' ⟨s0, s1, s2, s3, s4, s5, s6, s7⟩
    go_simp
    with_reducible rfl
   rotate_left
   ·
    simp only [Act.put, List.setIfInBounds_toArray, List.set_cons_zero, List.set_cons_succ, i64_w, i32_w]
    rfl
   refine take_ (i := 3) (N := some 25) (v := ?_) (a' := ?_) #[true, true, false, true, false, false, false, false] rfl rfl (take_ofW HT_.out HW_.out (by kernel_rfl)) (fun _ _ _ h => h) (Or.inl ⟨by rfl, ?_⟩) hHeld ?_ ?_
   rotate_left
   ·
    rintro w' ⟨s0, s1, s2, s3, s4, s5, s6, s7⟩
    go_simp
    with_reducible rfl
   rotate_left
   ·
    simp only [Act.put, List.setIfInBounds_toArray, List.set_cons_zero, List.set_cons_succ, i64_w, i32_w]
    rfl
   refine join_ (σ := Value × Value) 3 #[true, true, true, true, true, false, false, false] (fun s_ => [(24, s_.1), (26, s_.2)]) (fun s_ w' => (w'.cell? ⟨gb175, 0, none⟩ = some (.int .i64 a1_0) ∧ w'.cell? ⟨gb175, 1, none⟩ = some (.int .i64 a1_1) ∧ w'.cell? ⟨gb175, 2, none⟩ = some (.int .u64 a1_2) ∧ w'.cell? ⟨gb175, 3, none⟩ = some (.string a1_3) ∧ w'.cell? ⟨gb175, 4, none⟩ = some (.slice A1_4 l1_4.length c1_4) ∧ w'.cell? ⟨gb177, 0, none⟩ = some (.bool a2) ∧ w'.cell? ⟨gb177, 1, none⟩ = some (.string a3) ∧ w'.cell? ⟨gb177, 2, none⟩ = some (.int .i64 a0_2)) ∧ (Kd.R k35 35 w' w.heap.size (fun k_ => some k_ ≠ (s_.2 : Value).ownBlock ∧ k_ ≠ gb177) s_.1 t181) ∧ (Kd.R k35 35 w' w.heap.size (fun k_ => some k_ ≠ (s_.1 : Value).ownBlock ∧ k_ ≠ gb177) s_.2 y184) ∧ (w'.heap[gb174]? = some (.cells #[.slice A0_0 l0_0.length c0_0, .bool false, .int .i64 a0_2] 73 (0, 0))) ∧ (w'.heap[gb175]? = some (.cells #[.int .i64 a1_0, .int .i64 a1_1, .int .u64 a1_2, .string a1_3, .slice A1_4 l1_4.length c1_4] 27 (0, 0))) ∧ (w'.heap[gb176]? = some (.cells #[.int .i64 0, .int .i64 0, .int .u64 0, .string (⟨#[]⟩ : ByteArray), .slice none 0 0] 27 (0, 0))) ∧ (w'.heap[gb177]? = some (.cells #[.bool a2, .string a3, .int .i64 a0_2] 35 (0, 0))) ∧ (Below w.heap.size w w')) ?_ ?_
   rotate_left
   ·
    intro hCont
    refine two_ (i := 2) (j := 4) (Ni := some 24) (Nj := some 26) #[true, true, true, true, false, false, false, false] #[true, true, false, true, true, false, false, false] rfl rfl rfl rfl (two_of HT_.out (by kernel_rfl)) (by decide) (by decide) (fun K hK => ?_) (fun K hK => ?_)
    ·
     skip
     refine goes_ Try.func52 (by kernel_rfl) rfl #[.slice A1_4 l1_4.length c1_4] (by rfl) rfl rfl (by (try simp only [List.map_toArray, List.map_cons, List.map_nil]); first | done | rfl | (simp only [List.length_drop, List.length_take]; rfl)) ?_
     with_reducible refine (api_Layer_52.calls _ _ l1_4 t181 _ ?side1 ?side2 A25.out).mono ?_
     (case side1 => repeat (first | exact (Kd.C_below HR1_4.out HB.out) | (with_reducible refine Kd.C_alloc ?_ _) | (with_reducible refine Kd.C_drewN ?_ _) | (with_reducible refine Kd.C_drew ?_)))
     (case side2 => exact HC1_4.out)
     rintro e w41 ⟨v182, rfl, ho0, hb⟩
     refine ⟨_, rfl, ?_⟩
     have n0_ := Aside0.mk (Kd.R_lower (Kd.R_newB ho0 (g := gb177) (o := .cells #[.bool a2, .string a3, .int .i64 a0_2] 35 (0, 0)) (by (with_reducible repeat (first | refine blk_drewN ?_ _ | refine blk_drew ?_ | refine blk_alloc ?_ _)); exact BK177.out)) (below_size (by repeat (first | (with_reducible first | exact HB.out | apply below_alloc | apply pw_below_drewN | apply below_drew1 | refine below_set ?_ GE174.out | refine below_set ?_ GE175.out | refine below_set ?_ GE176.out | refine below_set ?_ GE177.out) | exact HB.out))))
     have n1_ := Aside0.mk (blk_below (g := gb174) (o := .cells #[.slice A0_0 l0_0.length c0_0, .bool false, .int .i64 a0_2] 73 (0, 0)) (by (with_reducible repeat (first | refine blk_drewN ?_ _ | refine blk_drew ?_ | refine blk_alloc ?_ _)); exact BK174.out) hb)
     have n2_ := Aside0.mk (blk_below (g := gb175) (o := .cells #[.int .i64 a1_0, .int .i64 a1_1, .int .u64 a1_2, .string a1_3, .slice A1_4 l1_4.length c1_4] 27 (0, 0)) (by (with_reducible repeat (first | refine blk_drewN ?_ _ | refine blk_drew ?_ | refine blk_alloc ?_ _)); exact BK175.out) hb)
     have n3_ := Aside0.mk (blk_below (g := gb176) (o := .cells #[.int .i64 0, .int .i64 0, .int .u64 0, .string (⟨#[]⟩ : ByteArray), .slice none 0 0] 27 (0, 0)) (by (with_reducible repeat (first | refine blk_drewN ?_ _ | refine blk_drew ?_ | refine blk_alloc ?_ _)); exact BK176.out) hb)
     have n4_ := Aside0.mk (blk_below (g := gb177) (o := .cells #[.bool a2, .string a3, .int .i64 a0_2] 35 (0, 0)) (by (with_reducible repeat (first | refine blk_drewN ?_ _ | refine blk_drew ?_ | refine blk_alloc ?_ _)); exact BK177.out) hb)
     have n5_ := Aside0.mk (below_step (by repeat (first | (with_reducible first | exact HB.out | apply below_alloc | apply pw_below_drewN | apply below_drew1 | refine below_set ?_ GE174.out | refine below_set ?_ GE175.out | refine below_set ?_ GE176.out | refine below_set ?_ GE177.out) | exact HB.out)) hb)
     clear BK174
     clear BK175
     clear BK176
     clear BK177
     clear HB
     have HO183 := n0_
     have BK174 := n1_
     have BK175 := n2_
     have BK176 := n3_
     have BK177 := n4_
     have HB := n5_
     clear n0_ n1_ n2_ n3_ n4_ n5_
     (try clear hb)
     (try clear hb2)
     (try clear hk)
     (try clear hi)
     (try clear ho0)
     refine hK.out _ _ ⟨(blk_cell BK175.out 0).trans rfl, (blk_cell BK175.out 1).trans rfl, (blk_cell BK175.out 2).trans rfl, (blk_cell BK175.out 3).trans rfl, (blk_cell BK175.out 4).trans rfl, (blk_cell BK177.out 0).trans rfl, (blk_cell BK177.out 1).trans rfl, (blk_cell BK177.out 2).trans rfl⟩ (fun hHeld => ?_)
     clear hK K
     refine norm_ (a' := ?_) ?_ ?_
     rotate_left
     ·
      show Act.put _ (some 24) _ = _
      simp only [Act.put, List.setIfInBounds_toArray, List.set_cons_zero, List.set_cons_succ, i64_w, i32_w]
      rfl
     refine one_ (i := 4) (N := some 26) #[true, true, true, true, true, false, false, false] rfl rfl (one_of HT_.out (by kernel_rfl)) (by decide) (fun K hK => ?_)
     refine Kd.R_lit_step k35 _ 35 ?hg (N := 26) ?hd (xs := ([(⟨a2, a3, a0_2⟩ : S35)] : List (S35))) (inner := [.bool a2, .string a3, .int .i64 a0_2]) (ok := fun _ => True) (okp := fun _ => True) ?hr ?hp (fun _ hk => hk) trivial (Below.refl _ _) (Nat.le_refl _) (by simp) ?_; (case hd => rfl); (case hg => rfl); (case hr => first | (go_simp; done) | (go_simp; rfl)); (case hp => exact (Reps.c3 (show Kd.M k35 _ _ _ (⟨a2, a3, a0_2⟩ : S35) [.bool a2, .string a3, .int .i64 a0_2] from (k35_mkM _ _ _ (⟨a2, a3, a0_2⟩ : S35) )) (Reps.none _ _)))
     intro v185 w42 ho43 hb hg_ hnew_
     clear hg_ hnew_
     (first | rw [← Ny184.out] at ho43 | (simp only [Int.reduceToNat] at ho43; rw [← Ny184.out] at ho43))
     have n0_ := Aside0.mk (Kd.R_elder' (by (with_reducible repeat (first | apply Kd.R_alloc | apply Kd.R_drewN | apply Kd.R_drew)); exact HO183.out) (Kd.R_base ho43) hb)
     have n1_ := Aside0.mk (Kd.R_lower (Kd.R_newB (Kd.R_new' ho43 (Kd.R_lt (by (with_reducible repeat (first | apply Kd.R_alloc | apply Kd.R_drewN | apply Kd.R_drew)); exact HO183.out))) (g := gb177) (o := .cells #[.bool a2, .string a3, .int .i64 a0_2] 35 (0, 0)) (by (with_reducible repeat (first | refine blk_drewN ?_ _ | refine blk_drew ?_ | refine blk_alloc ?_ _)); exact BK177.out)) (below_size (by repeat (first | (with_reducible first | exact HB.out | apply below_alloc | apply pw_below_drewN | apply below_drew1 | refine below_set ?_ GE174.out | refine below_set ?_ GE175.out | refine below_set ?_ GE176.out | refine below_set ?_ GE177.out) | exact HB.out))))
     have n2_ := Aside0.mk (blk_below (g := gb174) (o := .cells #[.slice A0_0 l0_0.length c0_0, .bool false, .int .i64 a0_2] 73 (0, 0)) (by (with_reducible repeat (first | refine blk_drewN ?_ _ | refine blk_drew ?_ | refine blk_alloc ?_ _)); exact BK174.out) hb)
     have n3_ := Aside0.mk (blk_below (g := gb175) (o := .cells #[.int .i64 a1_0, .int .i64 a1_1, .int .u64 a1_2, .string a1_3, .slice A1_4 l1_4.length c1_4] 27 (0, 0)) (by (with_reducible repeat (first | refine blk_drewN ?_ _ | refine blk_drew ?_ | refine blk_alloc ?_ _)); exact BK175.out) hb)
     have n4_ := Aside0.mk (blk_below (g := gb176) (o := .cells #[.int .i64 0, .int .i64 0, .int .u64 0, .string (⟨#[]⟩ : ByteArray), .slice none 0 0] 27 (0, 0)) (by (with_reducible repeat (first | refine blk_drewN ?_ _ | refine blk_drew ?_ | refine blk_alloc ?_ _)); exact BK176.out) hb)
     have n5_ := Aside0.mk (blk_below (g := gb177) (o := .cells #[.bool a2, .string a3, .int .i64 a0_2] 35 (0, 0)) (by (with_reducible repeat (first | refine blk_drewN ?_ _ | refine blk_drew ?_ | refine blk_alloc ?_ _)); exact BK177.out) hb)
     have n6_ := Aside0.mk (below_step (by repeat (first | (with_reducible first | exact HB.out | apply below_alloc | apply pw_below_drewN | apply below_drew1 | refine below_set ?_ GE174.out | refine below_set ?_ GE175.out | refine below_set ?_ GE176.out | refine below_set ?_ GE177.out) | exact HB.out)) hb)
     clear HO183
     clear BK174
     clear BK175
     clear BK176
     clear BK177
     clear HB
     have HO183 := n0_
     have HO186 := n1_
     have BK174 := n2_
     have BK175 := n3_
     have BK176 := n4_
     have BK177 := n5_
     have HB := n6_
     clear n0_ n1_ n2_ n3_ n4_ n5_ n6_
     clear hb ho43
     refine hK.out _ _ ⟨(blk_cell BK175.out 0).trans rfl, (blk_cell BK175.out 1).trans rfl, (blk_cell BK175.out 2).trans rfl, (blk_cell BK175.out 3).trans rfl, (blk_cell BK175.out 4).trans rfl, (blk_cell BK177.out 0).trans rfl, (blk_cell BK177.out 1).trans rfl, (blk_cell BK177.out 2).trans rfl⟩ (fun hHeld => ?_)
     clear hK K
     refine norm_ (a' := ?_) ?_ ?_
     rotate_left
     ·
      show Act.put _ (some 26) _ = _
      simp only [Act.put, List.setIfInBounds_toArray, List.set_cons_zero, List.set_cons_succ, i64_w, i32_w]
      rfl
     exact norm_ (by simp only [putAll, Act.put, List.setIfInBounds_toArray, List.set_cons_zero, List.set_cons_succ]) (hCont (v182, v185) _ ⟨hHeld, (by (with_reducible repeat (first | apply Kd.R_alloc | apply Kd.R_drewN | apply Kd.R_drew)); exact Kd.R_mono HO183.out (fun _ hk => ⟨hk.2, hk.1.2⟩)), (by (with_reducible repeat (first | apply Kd.R_alloc | apply Kd.R_drewN | apply Kd.R_drew)); exact Kd.R_mono HO186.out (fun _ hk => ⟨hk.1.2, hk.2⟩)), (by (with_reducible repeat (first | refine blk_drewN ?_ _ | refine blk_drew ?_ | refine blk_alloc ?_ _)); exact BK174.out), (by (with_reducible repeat (first | refine blk_drewN ?_ _ | refine blk_drew ?_ | refine blk_alloc ?_ _)); exact BK175.out), (by (with_reducible repeat (first | refine blk_drewN ?_ _ | refine blk_drew ?_ | refine blk_alloc ?_ _)); exact BK176.out), (by (with_reducible repeat (first | refine blk_drewN ?_ _ | refine blk_drew ?_ | refine blk_alloc ?_ _)); exact BK177.out), (by repeat (first | (with_reducible first | exact HB.out | apply below_alloc | apply pw_below_drewN | apply below_drew1 | refine below_set ?_ GE174.out | refine below_set ?_ GE175.out | refine below_set ?_ GE176.out | refine below_set ?_ GE177.out) | exact HB.out))⟩)
    ·
     skip
     refine Kd.R_lit_step k35 _ 35 ?hg (N := 26) ?hd (xs := ([(⟨a2, a3, a0_2⟩ : S35)] : List (S35))) (inner := [.bool a2, .string a3, .int .i64 a0_2]) (ok := fun _ => True) (okp := fun _ => True) ?hr ?hp (fun _ hk => hk) trivial (Below.refl _ _) (Nat.le_refl _) (by simp) ?_; (case hd => rfl); (case hg => rfl); (case hr => first | (go_simp; done) | (go_simp; rfl)); (case hp => exact (Reps.c3 (show Kd.M k35 _ _ _ (⟨a2, a3, a0_2⟩ : S35) [.bool a2, .string a3, .int .i64 a0_2] from (k35_mkM _ _ _ (⟨a2, a3, a0_2⟩ : S35) )) (Reps.none _ _)))
     intro v185 w41 ho42 hb hg_ hnew_
     clear hg_ hnew_
     (first | rw [← Ny184.out] at ho42 | (simp only [Int.reduceToNat] at ho42; rw [← Ny184.out] at ho42))
     have n0_ := Aside0.mk (Kd.R_lower (Kd.R_newB ho42 (g := gb177) (o := .cells #[.bool a2, .string a3, .int .i64 a0_2] 35 (0, 0)) (by (with_reducible repeat (first | refine blk_drewN ?_ _ | refine blk_drew ?_ | refine blk_alloc ?_ _)); exact BK177.out)) (below_size (by repeat (first | (with_reducible first | exact HB.out | apply below_alloc | apply pw_below_drewN | apply below_drew1 | refine below_set ?_ GE174.out | refine below_set ?_ GE175.out | refine below_set ?_ GE176.out | refine below_set ?_ GE177.out) | exact HB.out))))
     have n1_ := Aside0.mk (blk_below (g := gb174) (o := .cells #[.slice A0_0 l0_0.length c0_0, .bool false, .int .i64 a0_2] 73 (0, 0)) (by (with_reducible repeat (first | refine blk_drewN ?_ _ | refine blk_drew ?_ | refine blk_alloc ?_ _)); exact BK174.out) hb)
     have n2_ := Aside0.mk (blk_below (g := gb175) (o := .cells #[.int .i64 a1_0, .int .i64 a1_1, .int .u64 a1_2, .string a1_3, .slice A1_4 l1_4.length c1_4] 27 (0, 0)) (by (with_reducible repeat (first | refine blk_drewN ?_ _ | refine blk_drew ?_ | refine blk_alloc ?_ _)); exact BK175.out) hb)
     have n3_ := Aside0.mk (blk_below (g := gb176) (o := .cells #[.int .i64 0, .int .i64 0, .int .u64 0, .string (⟨#[]⟩ : ByteArray), .slice none 0 0] 27 (0, 0)) (by (with_reducible repeat (first | refine blk_drewN ?_ _ | refine blk_drew ?_ | refine blk_alloc ?_ _)); exact BK176.out) hb)
     have n4_ := Aside0.mk (blk_below (g := gb177) (o := .cells #[.bool a2, .string a3, .int .i64 a0_2] 35 (0, 0)) (by (with_reducible repeat (first | refine blk_drewN ?_ _ | refine blk_drew ?_ | refine blk_alloc ?_ _)); exact BK177.out) hb)
     have n5_ := Aside0.mk (below_step (by repeat (first | (with_reducible first | exact HB.out | apply below_alloc | apply pw_below_drewN | apply below_drew1 | refine below_set ?_ GE174.out | refine below_set ?_ GE175.out | refine below_set ?_ GE176.out | refine below_set ?_ GE177.out) | exact HB.out)) hb)
     clear BK174
     clear BK175
     clear BK176
     clear BK177
     clear HB
     have HO186 := n0_
     have BK174 := n1_
     have BK175 := n2_
     have BK176 := n3_
     have BK177 := n4_
     have HB := n5_
     clear n0_ n1_ n2_ n3_ n4_ n5_
     clear hb ho42
     refine hK.out _ _ ⟨(blk_cell BK175.out 0).trans rfl, (blk_cell BK175.out 1).trans rfl, (blk_cell BK175.out 2).trans rfl, (blk_cell BK175.out 3).trans rfl, (blk_cell BK175.out 4).trans rfl, (blk_cell BK177.out 0).trans rfl, (blk_cell BK177.out 1).trans rfl, (blk_cell BK177.out 2).trans rfl⟩ (fun hHeld => ?_)
     clear hK K
     refine norm_ (a' := ?_) ?_ ?_
     rotate_left
     ·
      show Act.put _ (some 26) _ = _
      simp only [Act.put, List.setIfInBounds_toArray, List.set_cons_zero, List.set_cons_succ, i64_w, i32_w]
      rfl
     refine one_ (i := 2) (N := some 24) #[true, true, true, true, true, false, false, false] rfl rfl (one_of HT_.out (by kernel_rfl)) (by decide) (fun K hK => ?_)
     refine goes_ Try.func52 (by kernel_rfl) rfl #[.slice A1_4 l1_4.length c1_4] (by rfl) rfl rfl (by (try simp only [List.map_toArray, List.map_cons, List.map_nil]); first | done | rfl | (simp only [List.length_drop, List.length_take]; rfl)) ?_
     with_reducible refine (api_Layer_52.calls _ _ l1_4 t181 _ ?side1 ?side2 A25.out).mono ?_
     (case side1 => repeat (first | exact (Kd.C_below HR1_4.out HB.out) | (with_reducible refine Kd.C_alloc ?_ _) | (with_reducible refine Kd.C_drewN ?_ _) | (with_reducible refine Kd.C_drew ?_)))
     (case side2 => exact HC1_4.out)
     rintro e w43 ⟨v182, rfl, ho0, hb⟩
     refine ⟨_, rfl, ?_⟩
     have n0_ := Aside0.mk (Kd.R_elder' (by (with_reducible repeat (first | apply Kd.R_alloc | apply Kd.R_drewN | apply Kd.R_drew)); exact HO186.out) (Kd.R_base ho0) hb)
     have n1_ := Aside0.mk (Kd.R_lower (Kd.R_newB (Kd.R_new' ho0 (Kd.R_lt (by (with_reducible repeat (first | apply Kd.R_alloc | apply Kd.R_drewN | apply Kd.R_drew)); exact HO186.out))) (g := gb177) (o := .cells #[.bool a2, .string a3, .int .i64 a0_2] 35 (0, 0)) (by (with_reducible repeat (first | refine blk_drewN ?_ _ | refine blk_drew ?_ | refine blk_alloc ?_ _)); exact BK177.out)) (below_size (by repeat (first | (with_reducible first | exact HB.out | apply below_alloc | apply pw_below_drewN | apply below_drew1 | refine below_set ?_ GE174.out | refine below_set ?_ GE175.out | refine below_set ?_ GE176.out | refine below_set ?_ GE177.out) | exact HB.out))))
     have n2_ := Aside0.mk (blk_below (g := gb174) (o := .cells #[.slice A0_0 l0_0.length c0_0, .bool false, .int .i64 a0_2] 73 (0, 0)) (by (with_reducible repeat (first | refine blk_drewN ?_ _ | refine blk_drew ?_ | refine blk_alloc ?_ _)); exact BK174.out) hb)
     have n3_ := Aside0.mk (blk_below (g := gb175) (o := .cells #[.int .i64 a1_0, .int .i64 a1_1, .int .u64 a1_2, .string a1_3, .slice A1_4 l1_4.length c1_4] 27 (0, 0)) (by (with_reducible repeat (first | refine blk_drewN ?_ _ | refine blk_drew ?_ | refine blk_alloc ?_ _)); exact BK175.out) hb)
     have n4_ := Aside0.mk (blk_below (g := gb176) (o := .cells #[.int .i64 0, .int .i64 0, .int .u64 0, .string (⟨#[]⟩ : ByteArray), .slice none 0 0] 27 (0, 0)) (by (with_reducible repeat (first | refine blk_drewN ?_ _ | refine blk_drew ?_ | refine blk_alloc ?_ _)); exact BK176.out) hb)
     have n5_ := Aside0.mk (blk_below (g := gb177) (o := .cells #[.bool a2, .string a3, .int .i64 a0_2] 35 (0, 0)) (by (with_reducible repeat (first | refine blk_drewN ?_ _ | refine blk_drew ?_ | refine blk_alloc ?_ _)); exact BK177.out) hb)
     have n6_ := Aside0.mk (below_step (by repeat (first | (with_reducible first | exact HB.out | apply below_alloc | apply pw_below_drewN | apply below_drew1 | refine below_set ?_ GE174.out | refine below_set ?_ GE175.out | refine below_set ?_ GE176.out | refine below_set ?_ GE177.out) | exact HB.out)) hb)
     clear HO186
     clear BK174
     clear BK175
     clear BK176
     clear BK177
     clear HB
     have HO186 := n0_
     have HO183 := n1_
     have BK174 := n2_
     have BK175 := n3_
     have BK176 := n4_
     have BK177 := n5_
     have HB := n6_
     clear n0_ n1_ n2_ n3_ n4_ n5_ n6_
     (try clear hb)
     (try clear hb2)
     (try clear hk)
     (try clear hi)
     (try clear ho0)
     refine hK.out _ _ ⟨(blk_cell BK175.out 0).trans rfl, (blk_cell BK175.out 1).trans rfl, (blk_cell BK175.out 2).trans rfl, (blk_cell BK175.out 3).trans rfl, (blk_cell BK175.out 4).trans rfl, (blk_cell BK177.out 0).trans rfl, (blk_cell BK177.out 1).trans rfl, (blk_cell BK177.out 2).trans rfl⟩ (fun hHeld => ?_)
     clear hK K
     refine norm_ (a' := ?_) ?_ ?_
     rotate_left
     ·
      show Act.put _ (some 24) _ = _
      simp only [Act.put, List.setIfInBounds_toArray, List.set_cons_zero, List.set_cons_succ, i64_w, i32_w]
      rfl
     exact norm_ (by simp only [putAll, Act.put, List.setIfInBounds_toArray, List.set_cons_zero, List.set_cons_succ]) (hCont (v182, v185) _ ⟨hHeld, (by (with_reducible repeat (first | apply Kd.R_alloc | apply Kd.R_drewN | apply Kd.R_drew)); exact Kd.R_mono HO183.out (fun _ hk => ⟨hk.1.2, hk.2⟩)), (by (with_reducible repeat (first | apply Kd.R_alloc | apply Kd.R_drewN | apply Kd.R_drew)); exact Kd.R_mono HO186.out (fun _ hk => ⟨hk.2, hk.1.2⟩)), (by (with_reducible repeat (first | refine blk_drewN ?_ _ | refine blk_drew ?_ | refine blk_alloc ?_ _)); exact BK174.out), (by (with_reducible repeat (first | refine blk_drewN ?_ _ | refine blk_drew ?_ | refine blk_alloc ?_ _)); exact BK175.out), (by (with_reducible repeat (first | refine blk_drewN ?_ _ | refine blk_drew ?_ | refine blk_alloc ?_ _)); exact BK176.out), (by (with_reducible repeat (first | refine blk_drewN ?_ _ | refine blk_drew ?_ | refine blk_alloc ?_ _)); exact BK177.out), (by repeat (first | (with_reducible first | exact HB.out | apply below_alloc | apply pw_below_drewN | apply below_drew1 | refine below_set ?_ GE174.out | refine below_set ?_ GE175.out | refine below_set ?_ GE176.out | refine below_set ?_ GE177.out) | exact HB.out))⟩)
   rintro ⟨v182, v185⟩ w44 ⟨hS_, h0_, h1_, h2_, h3_, h4_, h5_, h6_⟩
   have n0_ : Aside0 (Kd.R k35 35 w44 w.heap.size (fun k_ => some k_ ≠ (v185 : Value).ownBlock ∧ k_ ≠ gb177) v182 t181) := ⟨h0_⟩
   have n1_ : Aside0 (Kd.R k35 35 w44 w.heap.size (fun k_ => some k_ ≠ (v182 : Value).ownBlock ∧ k_ ≠ gb177) v185 y184) := ⟨h1_⟩
   have n2_ : Aside0 (w44.heap[gb174]? = some (.cells #[.slice A0_0 l0_0.length c0_0, .bool false, .int .i64 a0_2] 73 (0, 0))) := ⟨h2_⟩
   have n3_ : Aside0 (w44.heap[gb175]? = some (.cells #[.int .i64 a1_0, .int .i64 a1_1, .int .u64 a1_2, .string a1_3, .slice A1_4 l1_4.length c1_4] 27 (0, 0))) := ⟨h3_⟩
   have n4_ : Aside0 (w44.heap[gb176]? = some (.cells #[.int .i64 0, .int .i64 0, .int .u64 0, .string (⟨#[]⟩ : ByteArray), .slice none 0 0] 27 (0, 0))) := ⟨h4_⟩
   have n5_ : Aside0 (w44.heap[gb177]? = some (.cells #[.bool a2, .string a3, .int .i64 a0_2] 35 (0, 0))) := ⟨h5_⟩
   have n6_ : Aside0 (Below w.heap.size w w44) := ⟨h6_⟩
   clear BK174
   clear BK175
   clear BK176
   clear BK177
   clear HB
   clear h0_ h1_ h2_ h3_ h4_ h5_ h6_
   have HO183 := n0_
   have HO186 := n1_
   have BK174 := n2_
   have BK175 := n3_
   have BK176 := n4_
   have BK177 := n5_
   have HB := n6_
   clear n0_ n1_ n2_ n3_ n4_ n5_ n6_
   have hHeld : w44.cell? ⟨gb175, 0, none⟩ = some (.int .i64 a1_0) ∧ w44.cell? ⟨gb175, 1, none⟩ = some (.int .i64 a1_1) ∧ w44.cell? ⟨gb175, 2, none⟩ = some (.int .u64 a1_2) ∧ w44.cell? ⟨gb175, 3, none⟩ = some (.string a1_3) ∧ w44.cell? ⟨gb175, 4, none⟩ = some (.slice A1_4 l1_4.length c1_4) ∧ w44.cell? ⟨gb177, 0, none⟩ = some (.bool a2) ∧ w44.cell? ⟨gb177, 1, none⟩ = some (.string a3) ∧ w44.cell? ⟨gb177, 2, none⟩ = some (.int .i64 a0_2) := hS_
   obtain ⟨Ao46, co46, eo46⟩ := Kd.R_slice HO186.out
   (first | subst eo46 | (injection eo46 with f1_ f2_ f3_; have f4_ := f1_.symm; have f5_ := f3_.symm; clear f1_ f2_ f3_; subst f4_; subst f5_))
   refine norm_ (a' := ?_) ?_ ?_
   rotate_left
   ·
    simp only [putAll, Act.put, List.setIfInBounds_toArray, List.set_cons_zero, List.set_cons_succ]
    rfl
   refine one_ (i := 5) (N := some 27) #[true, true, true, true, true, true, false, false] rfl rfl (one_of HT_.out (by kernel_rfl)) (by decide) (fun K hK => ?_)
   refine Kd.R_append_rows_step k35 (w0 := w) w.heap.size (by rfl) (.tmp 24) (.tmp 26) 25 35 (.agg #[(.bool false), (.string ⟨#[]⟩), (.int .i64 0)]) 32 rfl Try.underlying25 info35 rfl (by decide) (by omega) v182 t181 y184 _ _ _ (fun k_ => some k_ ≠ (.slice Ao46 y184.length co46 : Value).ownBlock ∧ k_ ≠ gb177) (fun _ => False) rfl rfl ?aO ?aR (fun _ _ h => h) (fun _ h => h.elim) ?aF ?aB ?aS ?aL ?_
   (case aR => repeat (first | exact (Kd.R_reads' HO186.out).2.2 | (with_reducible refine Kd.C_alloc ?_ _) | (with_reducible refine Kd.C_drewN ?_ _) | (with_reducible refine Kd.C_drew ?_)))
   (case aB => exact (by repeat (first | (with_reducible first | exact HB.out | apply below_alloc | apply pw_below_drewN | apply below_drew1 | refine below_set ?_ GE174.out | refine below_set ?_ GE175.out | refine below_set ?_ GE176.out | refine below_set ?_ GE177.out) | exact HB.out)))
   (case aF => exact (fun k_ hk => ⟨Kd.fresh' (Kd.R_lt (by (with_reducible repeat (first | apply Kd.R_alloc | apply Kd.R_drewN | apply Kd.R_drew)); exact HO186.out)) k_ hk, Kd.freshB (g := gb177) (o := .cells #[.bool a2, .string a3, .int .i64 a0_2] 35 (0, 0)) (by (with_reducible repeat (first | refine blk_drewN ?_ _ | refine blk_drew ?_ | refine blk_alloc ?_ _)); exact BK177.out) k_ hk⟩))
   (case aO => exact (by (with_reducible repeat (first | apply Kd.R_alloc | apply Kd.R_drewN | apply Kd.R_drew)); exact HO183.out))
   (case aS => exact (below_size (by repeat (first | (with_reducible first | exact HB.out | apply below_alloc | apply pw_below_drewN | apply below_drew1 | refine below_set ?_ GE174.out | refine below_set ?_ GE175.out | refine below_set ?_ GE176.out | refine below_set ?_ GE177.out) | exact HB.out))))
   (case aL => have := LMc26.out; omega)
   intro v188 w45 ho hb hg hat
   rw [← Ny187.out] at ho
   have n0_ := Aside0.mk (blk_grown (g := gb174) (o := .cells #[.slice A0_0 l0_0.length c0_0, .bool false, .int .i64 a0_2] 73 (0, 0)) (by (with_reducible repeat (first | refine blk_drewN ?_ _ | refine blk_drew ?_ | refine blk_alloc ?_ _)); exact BK174.out) hg (Kd.R_ne HO183.out BK174.out (by decide)))
   have n1_ := Aside0.mk (blk_grown (g := gb175) (o := .cells #[.int .i64 a1_0, .int .i64 a1_1, .int .u64 a1_2, .string a1_3, .slice A1_4 l1_4.length c1_4] 27 (0, 0)) (by (with_reducible repeat (first | refine blk_drewN ?_ _ | refine blk_drew ?_ | refine blk_alloc ?_ _)); exact BK175.out) hg (Kd.R_ne HO183.out BK175.out (by decide)))
   have n2_ := Aside0.mk (blk_grown (g := gb176) (o := .cells #[.int .i64 0, .int .i64 0, .int .u64 0, .string (⟨#[]⟩ : ByteArray), .slice none 0 0] 27 (0, 0)) (by (with_reducible repeat (first | refine blk_drewN ?_ _ | refine blk_drew ?_ | refine blk_alloc ?_ _)); exact BK176.out) hg (Kd.R_ne HO183.out BK176.out (by decide)))
   have n3_ := Aside0.mk (blk_grown (g := gb177) (o := .cells #[.bool a2, .string a3, .int .i64 a0_2] 35 (0, 0)) (by (with_reducible repeat (first | refine blk_drewN ?_ _ | refine blk_drew ?_ | refine blk_alloc ?_ _)); exact BK177.out) hg (Kd.R_away HO183.out (fun _ hk => hk.2)))
   have n4_ := Aside0.mk (Kd.R_after (ok := (fun k_ => k_ ≠ gb177)) (by (with_reducible repeat (first | apply Kd.R_alloc | apply Kd.R_drewN | apply Kd.R_drew)); exact Kd.R_mono HO186.out (fun _ hk => ⟨hk.2, hk.1⟩)) hg hat)
   have n5_ := Aside0.mk (hb)
   have n6_ := Aside0.mk (ho)
   clear BK174
   clear BK175
   clear BK176
   clear BK177
   clear HO186
   clear HB
   clear HO183
   have BK174 := n0_
   have BK175 := n1_
   have BK176 := n2_
   have BK177 := n3_
   have HO186 := n4_
   have HB := n5_
   have HO189 := n6_
   clear n0_ n1_ n2_ n3_ n4_ n5_ n6_
   clear ho hb hg hat
   obtain ⟨Ao47, co47, eo47⟩ := Kd.R_slice HO189.out
   (first | subst eo47 | (injection eo47 with f1_ f2_ f3_; have f4_ := f1_.symm; have f5_ := f3_.symm; clear f1_ f2_ f3_; subst f4_; subst f5_))
   refine hK.out _ _ ⟨(blk_cell BK175.out 0).trans rfl, (blk_cell BK175.out 1).trans rfl, (blk_cell BK175.out 2).trans rfl, (blk_cell BK175.out 3).trans rfl, (blk_cell BK175.out 4).trans rfl, (blk_cell BK177.out 0).trans rfl, (blk_cell BK177.out 1).trans rfl, (blk_cell BK177.out 2).trans rfl⟩ (fun hHeld => ?_)
   clear hK K
   refine norm_ (a' := ?_) ?_ ?_
   rotate_left
   ·
    show Act.put _ (some 27) _ = _
    simp only [Act.put, List.setIfInBounds_toArray, List.set_cons_zero, List.set_cons_succ, i64_w, i32_w]
    rfl
   refine pure_ (i := 6) (N := some 28) (v := ?_) (a' := ?_) #[true, true, true, true, true, true, true, false] rfl rfl (any_of HT_.out (by kernel_rfl)) (fun _ _ _ h => h) (Or.inl ⟨by rfl, ?_⟩) ?_ ?_
   rotate_left
   ·
    intro w'
    go_simp
    with_reducible rfl
   rotate_left
   ·
    simp only [Act.put, List.setIfInBounds_toArray, List.set_cons_zero, List.set_cons_succ, i64_w, i32_w]
    rfl
   refine last_ (i := 7) (N := none) #[true, true, true, true, true, true, true, true] rfl rfl (one_of HT_.out (by kernel_rfl)) (by decide) (fun K hK => ?_)
   have hs48 : w45.cell? ⟨gb175, 4, none⟩ = some (.slice A1_4 l1_4.length c1_4) := (blk_cell BK175.out 4).trans rfl
   have hfs48 := blk_frozen BK175.out 4
   have hns48_0 := NB174_175.out
   have hns48_2 := NB176_175.out
   have hns48_3 := NB177_175.out
   have hms48_0 := NB175_174.out
   have hms48_2 := NB175_176.out
   have hms48_3 := NB175_177.out
   refine skip_ (w1 := ?_) (by rfl) rfl ?_ ?_
   rotate_left
   ·
    go_simp
    rfl
   refine hK.out _ _ ?_
   clear hK K
   refine done_ (done_of HT_.out (by kernel_rfl)) ?_
   have hnb49 := NB175_176.out
   have hnc49 := NB176_175.out
   have hcz50_0 : w45.cell? ⟨gb175, 0, none⟩ = some (.int .i64 a1_0) := (blk_cell BK175.out 0).trans rfl
   have hcz50_1 : w45.cell? ⟨gb175, 1, none⟩ = some (.int .i64 a1_1) := (blk_cell BK175.out 1).trans rfl
   have hcz50_2 : w45.cell? ⟨gb175, 2, none⟩ = some (.int .u64 a1_2) := (blk_cell BK175.out 2).trans rfl
   have hcz50_3 : w45.cell? ⟨gb175, 3, none⟩ = some (.string a1_3) := (blk_cell BK175.out 3).trans rfl
   have hcz50_4 : w45.cell? ⟨gb175, 4, none⟩ = some (.slice A1_4 l1_4.length c1_4) := (blk_cell BK175.out 4).trans rfl
   have hfz50_0 := blk_frozen BK175.out 0
   have hfz50_1 := blk_frozen BK175.out 1
   have hfz50_2 := blk_frozen BK175.out 2
   have hfz50_3 := blk_frozen BK175.out 3
   have hfz50_4 := blk_frozen BK175.out 4
   have hcz51_0 : w45.cell? ⟨gb176, 0, none⟩ = some (.int .i64 0) := (blk_cell BK176.out 0).trans rfl
   have hcz51_1 : w45.cell? ⟨gb176, 1, none⟩ = some (.int .i64 0) := (blk_cell BK176.out 1).trans rfl
   have hcz51_2 : w45.cell? ⟨gb176, 2, none⟩ = some (.int .u64 0) := (blk_cell BK176.out 2).trans rfl
   have hcz51_3 : w45.cell? ⟨gb176, 3, none⟩ = some (.string (⟨#[]⟩ : ByteArray)) := (blk_cell BK176.out 3).trans rfl
   have hcz51_4 : w45.cell? ⟨gb176, 4, none⟩ = some (.slice none 0 0) := (blk_cell BK176.out 4).trans rfl
   have hfz51_0 := blk_frozen BK176.out 0
   have hfz51_1 := blk_frozen BK176.out 1
   have hfz51_2 := blk_frozen BK176.out 2
   have hfz51_3 := blk_frozen BK176.out 3
   have hfz51_4 := blk_frozen BK176.out 4
   try go_wp2
   refine bodyPost_ret (results_cell_row rfl _ _ gb176 27 #[.int .i64 a1_0, .int .i64 a1_1, .int .u64 a1_2, .string a1_3, .slice Ao47 y187.length co47] (0, 0) _ rfl (by (with_reducible repeat (first | refine blk_drewN ?_ _ | refine blk_drew ?_ | refine blk_alloc ?_ _)); refine blk_put (cs := #[.int .i64 a1_0, .int .i64 a1_1, .int .u64 a1_2, .string a1_3, .slice none 0 0]) ?_ 4 _ rfl; (with_reducible repeat (first | refine blk_drewN ?_ _ | refine blk_drew ?_ | refine blk_alloc ?_ _)); refine blk_put (cs := #[.int .i64 a1_0, .int .i64 a1_1, .int .u64 a1_2, .string (⟨#[]⟩ : ByteArray), .slice none 0 0]) ?_ 3 _ rfl; (with_reducible repeat (first | refine blk_drewN ?_ _ | refine blk_drew ?_ | refine blk_alloc ?_ _)); refine blk_put (cs := #[.int .i64 a1_0, .int .i64 a1_1, .int .u64 0, .string (⟨#[]⟩ : ByteArray), .slice none 0 0]) ?_ 2 _ rfl; (with_reducible repeat (first | refine blk_drewN ?_ _ | refine blk_drew ?_ | refine blk_alloc ?_ _)); refine blk_put (cs := #[.int .i64 a1_0, .int .i64 0, .int .u64 0, .string (⟨#[]⟩ : ByteArray), .slice none 0 0]) ?_ 1 _ rfl; (with_reducible repeat (first | refine blk_drewN ?_ _ | refine blk_drew ?_ | refine blk_alloc ?_ _)); refine blk_put (cs := #[.int .i64 0, .int .i64 0, .int .u64 0, .string (⟨#[]⟩ : ByteArray), .slice none 0 0]) ?_ 0 _ rfl; (with_reducible repeat (first | refine blk_drewN ?_ _ | refine blk_drew ?_ | refine blk_alloc ?_ _)); refine blk_far ?_ NB176_175.out _; (with_reducible repeat (first | refine blk_drewN ?_ _ | refine blk_drew ?_ | refine blk_alloc ?_ _)); exact BK176.out) Try.underlying27 rfl (by kernel_rfl)) rfl ?_
   exact ⟨_, by first | rfl | (simp [errW_none, errW_some] <;> rfl) | (simp [*, errW_none, errW_some] <;> rfl), by (with_reducible repeat (first | apply Kd.R_alloc | apply Kd.R_drewN | apply Kd.R_drew)); exact Kd.R_mono (Kd.R_far (p := ⟨gb176, 4, none⟩) (Kd.R_far (p := ⟨gb176, 3, none⟩) (Kd.R_far (p := ⟨gb176, 2, none⟩) (Kd.R_far (p := ⟨gb176, 1, none⟩) (Kd.R_far (p := ⟨gb176, 0, none⟩) (Kd.R_far (p := ⟨gb175, 4, none⟩) (Kd.R_types (Kd.R_types HO189.out BK175.out (by decide)) BK176.out (by decide)) (fun _ hk => hk.1.2) (.slice Ao47 y187.length co47)) (fun _ hk => hk.2) (.int .i64 a1_0)) (fun _ hk => hk.2) (.int .i64 a1_1)) (fun _ hk => hk.2) (.int .u64 a1_2)) (fun _ hk => hk.2) (.string a1_3)) (fun _ hk => hk.2) (.slice Ao47 y187.length co47)) (fun _ hk => trivial), by repeat (first | (with_reducible first | exact HB.out | apply below_alloc | apply pw_below_drewN | apply below_drew1 | refine below_set ?_ GE174.out | refine below_set ?_ GE175.out | refine below_set ?_ GE176.out | refine below_set ?_ GE177.out) | exact HB.out)⟩
  ·
   rw [if_neg c26] at H
   exact absurd H (by simp)
end Go.Proofs.Ytinkbljjpafadaa.PAll
end

section
namespace Go.Proofs.Ytinkbljjpafadaa.PAll
open Go.RowKit Go.Proofs.YtinkbljjpafadaaW.PrintWords Go.Proofs.YtinkbljjpafadaaW.PrintLast Go.Proofs.YtinkbljjpafadaaW.PrintMore
attribute [local go_sem] max2_int min2_int max_two min_two max_three min_three max_four min_four   -- for this text's walks alone
set_option linter.unusedVariables false
set_option linter.unusedSimpArgs false
def coerce_caster_leaves.j0 : Nat → ByteArray → Bool → List (S64) → Bool → Int → Int → Int → Int → ByteArray → List (S35) → Option (Int × Int × Int × ByteArray × (List (S35)))
 | 0, _, _, _, _, _, _, _, _, _, _ => none
 | k + 1, x2, x14, x191000, x191001, x191002, x192000, x192001, x192002, x192003, x192004 => if x14 = true then ((api_Layer_52.f x192004).bind fun t194 => (some (x192000, x192001, x192002, x192003, t194))) else ((coerce_caster_behind.f x191000 x191001 x191002 x192000 x192001 x192002 x192003 x192004 false x2).bind fun bt197 => (some (bt197.1, bt197.2.1, bt197.2.2.1, bt197.2.2.2.1, bt197.2.2.2.2)))
def coerce_caster_leaves.f (k : Nat) (l0_0 : List (S64)) (a0_1 : Bool) (a0_2 : Int) (a1_0 : Int) (a1_1 : Int) (a1_2 : Int) (a1_3 : ByteArray) (l1_4 : List (S35)) (a2 : ByteArray) : Option (Int × Int × Int × ByteArray × (List (S35))) := (words_Kind.f a2).bind fun t193 => (if t193 = 3 then (coerce_caster_leaves.j0 k a2 (a1_0 != 7) l0_0 a0_1 a0_2 a1_0 a1_1 a1_2 a1_3 l1_4) else (coerce_caster_leaves.j0 k a2 true l0_0 a0_1 a0_2 a1_0 a1_1 a1_2 a1_3 l1_4))
theorem coerce_caster_leaves.mono_l : ∀ k, (∀ y0 y1 y2 y3 y4 y5 y6 y7 y8 y9, LeO (coerce_caster_leaves.j0 k y0 y1 y2 y3 y4 y5 y6 y7 y8 y9) (coerce_caster_leaves.j0 (k + 1) y0 y1 y2 y3 y4 y5 y6 y7 y8 y9))
 | 0 => fun _ _ _ _ _ _ _ _ _ _ r h => by simp [coerce_caster_leaves.j0] at h
 | k + 1 => by
  have ih0 := coerce_caster_leaves.mono_l k
  ·
   intro y0 y1 y2 y3 y4 y5 y6 y7 y8 y9
   unfold coerce_caster_leaves.j0
   repeat' first
   | (with_reducible exact ih0 _ _ _ _ _ _ _ _ _ _)
   | (with_reducible exact LeO.refl _)
   | (with_reducible exact LeO.none _)
   | (with_reducible refine LeO.ite ?_ ?_)
   | (with_reducible refine LeO.bind ?_ (fun _ => ?_))
   | exact ih0 _ _ _ _ _ _ _ _ _ _
   | exact LeO.none _
   | refine LeO.ite ?_ ?_
   | refine LeO.bind ?_ (fun _ => ?_)
theorem coerce_caster_leaves.mono : ∀ a0 a1 a2 a3 a4 a5 a6 a7 a8 k, LeO (coerce_caster_leaves.f k a0 a1 a2 a3 a4 a5 a6 a7 a8) (coerce_caster_leaves.f (k + 1) a0 a1 a2 a3 a4 a5 a6 a7 a8) := by
 intro a0 a1 a2 a3 a4 a5 a6 a7 a8 k
 have ih0 := coerce_caster_leaves.mono_l k
 unfold coerce_caster_leaves.f
 repeat' first
   | (with_reducible exact ih0 _ _ _ _ _ _ _ _ _ _)
   | (with_reducible exact LeO.refl _)
   | (with_reducible exact LeO.none _)
   | (with_reducible refine LeO.ite ?_ ?_)
   | (with_reducible refine LeO.bind ?_ (fun _ => ?_))
   | exact ih0 _ _ _ _ _ _ _ _ _ _
   | exact LeO.none _
   | refine LeO.ite ?_ ?_
   | refine LeO.bind ?_ (fun _ => ?_)
set_option maxHeartbeats 8000000 in
set_option maxRecDepth 100000 in
theorem coerce_caster_leaves.calls (k : Nat) (A0_0 : Option Addr) (c0_0 : Nat) (l0_0 : List (S64)) (a0_1 : Bool) (a0_2 : Int) (a1_0 : Int) (a1_1 : Int) (a1_2 : Int) (a1_3 : ByteArray) (A1_4 : Option Addr) (c1_4 : Nat) (l1_4 : List (S35)) (a2 : ByteArray) (r1 : Int) (r2 : Int) (r3 : Int) (r4 : ByteArray) (r5 : List (S35)) (w : World) (hr0_0 : Kd.C k64 w A0_0 l0_0.length l0_0) (hc0_0 : l0_0.length ≤ c0_0) (hr1_4 : Kd.C k35 w A1_4 l1_4.length l1_4) (hc1_4 : l1_4.length ≤ c1_4) (h : coerce_caster_leaves.f k l0_0 a0_1 a0_2 a1_0 a1_1 a1_2 a1_3 l1_4 a2 = some (r1, r2, r3, r4, r5)) :
  Calls Try.prog 36 #[.agg #[.slice A0_0 l0_0.length c0_0, .bool a0_1, .int .i64 a0_2], .agg #[.int .i64 a1_0, .int .i64 a1_1, .int .u64 a1_2, .string a1_3, .slice A1_4 l1_4.length c1_4], .string a2] w fun e w' => ∃ v4_ : Value, e = .returned (.agg #[.int .i64 r1, .int .i64 r2, .int .u64 r3, .string r4, v4_]) ∧ Kd.R k35 35 w' w.heap.size (fun _ => True) v4_ r5 ∧ Below w.heap.size w w' := by
 have hu73 := Try.underlying73
 have hu27 := Try.underlying27
 have HR0_0 := Aside0.mk hr0_0
 have HC0_0 := Aside0.mk hc0_0
 clear hr0_0 hc0_0
 have HR1_4 := Aside0.mk hr1_4
 have HC1_4 := Aside0.mk hc1_4
 clear hr1_4 hc1_4
 have HB := Aside0.mk (Below.refl w.heap.size w)
 have H : ((words_Kind.f a2).bind fun t193 => (if t193 = 3 then (coerce_caster_leaves.j0 k a2 (a1_0 != 7) l0_0 a0_1 a0_2 a1_0 a1_1 a1_2 a1_3 l1_4) else (coerce_caster_leaves.j0 k a2 true l0_0 a0_1 a0_2 a1_0 a1_1 a1_2 a1_3 l1_4))) = some (r1, r2, r3, r4, r5) := h
 clear h
 have HC4 := Aside0.mk H
 clear H
 go_enter Try.func36, Try.ntmps36
 go_upto_region 1 with (first | ((with_reducible refine gate_dst (N := 3) rfl ?_); refine box_event ?hg (N := 3) ?hd (cs := #[.slice A0_0 l0_0.length c0_0, .bool a0_1, .int .i64 a0_2]) (t := 73) ?hr ?_; (case hd => rfl); (case hg => rfl); (case hr => first | (go_simp; done) | (go_simp; rfl)); intro gb190 hg w5 hbox hb; have n0_ := Aside0.mk (below_step (by repeat (first | (with_reducible first | exact HB.out | apply below_alloc | apply pw_below_drewN | apply below_drew1) | exact HB.out)) hb); have n1_ := Aside0.mk (hbox); have n2_ := Aside0.mk ((by rw [hg]; exact (below_size (by repeat (first | (with_reducible first | exact HB.out | apply below_alloc | apply pw_below_drewN | apply below_drew1) | exact HB.out))) : w.heap.size ≤ gb190)); have n3_ := Aside0.mk ((by rw [hg]; exact (below_size (by repeat (first | (with_reducible first | exact HB.out | apply below_alloc | apply pw_below_drewN | apply below_drew1) | exact HB.out))) : w.heap.size ≤ gb190)); clear HB; have HB := n0_; have BK190 := n1_; have GW190 := n2_; have GE190 := n3_; clear n0_ n1_ n2_ n3_; clear hb hbox hg) | ((with_reducible refine gate_dst (N := 4) rfl ?_); refine box_event ?hg (N := 4) ?hd (cs := #[.int .i64 a1_0, .int .i64 a1_1, .int .u64 a1_2, .string a1_3, .slice A1_4 l1_4.length c1_4]) (t := 27) ?hr ?_; (case hd => rfl); (case hg => rfl); (case hr => first | (go_simp; done) | (go_simp; rfl)); intro gb191 hg w6 hbox hb; have n0_ := Aside0.mk (blk_below (g := gb190) (o := .cells #[.slice A0_0 l0_0.length c0_0, .bool a0_1, .int .i64 a0_2] 73 (0, 0)) (by (with_reducible repeat (first | refine blk_drewN ?_ _ | refine blk_drew ?_ | refine blk_alloc ?_ _)); exact BK190.out) hb); have n1_ := Aside0.mk (below_step (by repeat (first | (with_reducible first | exact HB.out | apply below_alloc | apply pw_below_drewN | apply below_drew1 | refine below_set ?_ GE190.out) | exact HB.out)) hb); have n2_ := Aside0.mk (hbox); have n3_ := Aside0.mk ((by rw [hg]; exact (below_size (by repeat (first | (with_reducible first | exact HB.out | apply below_alloc | apply pw_below_drewN | apply below_drew1 | refine below_set ?_ GE190.out) | exact HB.out))) : w.heap.size ≤ gb191)); have n4_ := Aside0.mk ((by rw [hg]; exact (below_size (by repeat (first | (with_reducible first | exact HB.out | apply below_alloc | apply pw_below_drewN | apply below_drew1 | refine below_set ?_ GE190.out) | exact HB.out))) : w.heap.size ≤ gb191)); have n5_ := Aside0.mk ((by rw [hg]; exact Nat.ne_of_lt (blk_lt (g := gb190) (o := .cells #[.slice A0_0 l0_0.length c0_0, .bool a0_1, .int .i64 a0_2] 73 (0, 0)) (by (with_reducible repeat (first | refine blk_drewN ?_ _ | refine blk_drew ?_ | refine blk_alloc ?_ _)); exact BK190.out)) : gb190 ≠ gb191)); have n6_ := Aside0.mk ((by rw [hg]; exact Nat.ne_of_gt (blk_lt (g := gb190) (o := .cells #[.slice A0_0 l0_0.length c0_0, .bool a0_1, .int .i64 a0_2] 73 (0, 0)) (by (with_reducible repeat (first | refine blk_drewN ?_ _ | refine blk_drew ?_ | refine blk_alloc ?_ _)); exact BK190.out)) : gb191 ≠ gb190)); clear BK190; clear HB; have BK190 := n0_; have HB := n1_; have BK191 := n2_; have GW191 := n3_; have GE191 := n4_; have NB190_191 := n5_; have NB191_190 := n6_; clear n0_ n1_ n2_ n3_ n4_ n5_ n6_; clear hb hbox hg) | ((with_reducible refine gate_dst (N := 6) rfl ?_); refine box_event ?hg (N := 6) ?hd (cs := #[.int .i64 0, .int .i64 0, .int .u64 0, .string (⟨#[]⟩ : ByteArray), .slice none 0 0]) (t := 27) ?hr ?_; (case hd => rfl); (case hg => rfl); (case hr => first | (go_simp; done) | (go_simp; rfl)); intro gb192 hg w7 hbox hb; have n0_ := Aside0.mk (blk_below (g := gb190) (o := .cells #[.slice A0_0 l0_0.length c0_0, .bool a0_1, .int .i64 a0_2] 73 (0, 0)) (by (with_reducible repeat (first | refine blk_drewN ?_ _ | refine blk_drew ?_ | refine blk_alloc ?_ _)); exact BK190.out) hb); have n1_ := Aside0.mk (blk_below (g := gb191) (o := .cells #[.int .i64 a1_0, .int .i64 a1_1, .int .u64 a1_2, .string a1_3, .slice A1_4 l1_4.length c1_4] 27 (0, 0)) (by (with_reducible repeat (first | refine blk_drewN ?_ _ | refine blk_drew ?_ | refine blk_alloc ?_ _)); exact BK191.out) hb); have n2_ := Aside0.mk (below_step (by repeat (first | (with_reducible first | exact HB.out | apply below_alloc | apply pw_below_drewN | apply below_drew1 | refine below_set ?_ GE190.out | refine below_set ?_ GE191.out) | exact HB.out)) hb); have n3_ := Aside0.mk (hbox); have n4_ := Aside0.mk ((by rw [hg]; exact (below_size (by repeat (first | (with_reducible first | exact HB.out | apply below_alloc | apply pw_below_drewN | apply below_drew1 | refine below_set ?_ GE190.out | refine below_set ?_ GE191.out) | exact HB.out))) : w.heap.size ≤ gb192)); have n5_ := Aside0.mk ((by rw [hg]; exact (below_size (by repeat (first | (with_reducible first | exact HB.out | apply below_alloc | apply pw_below_drewN | apply below_drew1 | refine below_set ?_ GE190.out | refine below_set ?_ GE191.out) | exact HB.out))) : w.heap.size ≤ gb192)); have n6_ := Aside0.mk ((by rw [hg]; exact Nat.ne_of_lt (blk_lt (g := gb190) (o := .cells #[.slice A0_0 l0_0.length c0_0, .bool a0_1, .int .i64 a0_2] 73 (0, 0)) (by (with_reducible repeat (first | refine blk_drewN ?_ _ | refine blk_drew ?_ | refine blk_alloc ?_ _)); exact BK190.out)) : gb190 ≠ gb192)); have n7_ := Aside0.mk ((by rw [hg]; exact Nat.ne_of_gt (blk_lt (g := gb190) (o := .cells #[.slice A0_0 l0_0.length c0_0, .bool a0_1, .int .i64 a0_2] 73 (0, 0)) (by (with_reducible repeat (first | refine blk_drewN ?_ _ | refine blk_drew ?_ | refine blk_alloc ?_ _)); exact BK190.out)) : gb192 ≠ gb190)); have n8_ := Aside0.mk ((by rw [hg]; exact Nat.ne_of_lt (blk_lt (g := gb191) (o := .cells #[.int .i64 a1_0, .int .i64 a1_1, .int .u64 a1_2, .string a1_3, .slice A1_4 l1_4.length c1_4] 27 (0, 0)) (by (with_reducible repeat (first | refine blk_drewN ?_ _ | refine blk_drew ?_ | refine blk_alloc ?_ _)); exact BK191.out)) : gb191 ≠ gb192)); have n9_ := Aside0.mk ((by rw [hg]; exact Nat.ne_of_gt (blk_lt (g := gb191) (o := .cells #[.int .i64 a1_0, .int .i64 a1_1, .int .u64 a1_2, .string a1_3, .slice A1_4 l1_4.length c1_4] 27 (0, 0)) (by (with_reducible repeat (first | refine blk_drewN ?_ _ | refine blk_drew ?_ | refine blk_alloc ?_ _)); exact BK191.out)) : gb192 ≠ gb191)); clear BK190; clear BK191; clear HB; have BK190 := n0_; have BK191 := n1_; have HB := n2_; have BK192 := n3_; have GW192 := n4_; have GE192 := n5_; have NB190_192 := n6_; have NB192_190 := n7_; have NB191_192 := n8_; have NB192_191 := n9_; clear n0_ n1_ n2_ n3_ n4_ n5_ n6_ n7_ n8_ n9_; clear hb hbox hg))
 (try simp only [Act.put, List.setIfInBounds_toArray, List.set_cons_zero, List.set_cons_succ])
 go_cut [14] (fun v14 wc => ∃ (kq : Nat) (x14_3 : Bool), v14 = .bool x14_3 ∧ Aside0 (coerce_caster_leaves.j0 kq a2 x14_3 l0_0 a0_1 a0_2 a1_0 a1_1 a1_2 a1_3 l1_4 = some (r1, r2, r3, r4, r5)) ∧ Aside0 (kq ≤ k) ∧ Aside0 (wc.heap[gb190]? = some (.cells #[(.slice A0_0 l0_0.length c0_0), .bool a0_1, .int .i64 a0_2] 73 (0, 0))) ∧ Aside0 (wc.heap[gb191]? = some (.cells #[.int .i64 a1_0, .int .i64 a1_1, .int .u64 a1_2, .string a1_3, (.slice A1_4 l1_4.length c1_4)] 27 (0, 0))) ∧ Aside0 (wc.heap[gb192]? = some (.cells #[.int .i64 0, .int .i64 0, .int .u64 0, .string (⟨#[]⟩ : ByteArray), (.slice none 0 0)] 27 (0, 0))) ∧ Aside0 (Below w.heap.size w wc))
 case first =>
  have H := HC4.out
  clear HC4
  replace H := Option.bind_eq_some_iff.mp H
  obtain ⟨t193, A80, H⟩ := H
  replace H : (if t193 = 3 then (coerce_caster_leaves.j0 k a2 (a1_0 != 7) l0_0 a0_1 a0_2 a1_0 a1_1 a1_2 a1_3 l1_4) else (coerce_caster_leaves.j0 k a2 true l0_0 a0_1 a0_2 a1_0 a1_1 a1_2 a1_3 l1_4)) = some (r1, r2, r3, r4, r5) := H
  have A8 := Aside0.mk A80
  clear A80
  by_cases c9 : t193 = 3
  ·
   rw [if_pos c9] at H
   have c9b0 : (t193 == 3) = true := beq_iff_eq.mpr c9
   have c9b1 : (t193 != 3) = false := bne_eq_false_iff_eq.mpr c9
   clear c9
   (first | rw [c9b0] | (simp only [i64_w, i32_w]; rw [c9b0]) | skip)
   have H' := Aside0.mk H
   clear H
   go_wp2_with (first | ((with_reducible refine gate_callee (f := 51) rfl ?_); refine goesL_ (some 8) rfl rfl Try.func51 (by kernel_rfl) rfl #[.string a2] rfl (by (try simp only [List.map_toArray, List.map_cons, List.map_nil]); first | done | rfl | (simp only [List.length_drop, List.length_take]; rfl)) ?_; (with_reducible refine (words_Kind.calls a2 t193 _ A8.out).mono ?_); rintro e w10 ⟨rfl, hb⟩; refine ⟨_, rfl, ?_⟩; have n0_ := Aside0.mk (blk_below (g := gb190) (o := .cells #[.slice A0_0 l0_0.length c0_0, .bool a0_1, .int .i64 a0_2] 73 (0, 0)) (by (with_reducible repeat (first | refine blk_drewN ?_ _ | refine blk_drew ?_ | refine blk_alloc ?_ _)); exact BK190.out) hb); have n1_ := Aside0.mk (blk_below (g := gb191) (o := .cells #[.int .i64 a1_0, .int .i64 a1_1, .int .u64 a1_2, .string a1_3, .slice A1_4 l1_4.length c1_4] 27 (0, 0)) (by (with_reducible repeat (first | refine blk_drewN ?_ _ | refine blk_drew ?_ | refine blk_alloc ?_ _)); exact BK191.out) hb); have n2_ := Aside0.mk (blk_below (g := gb192) (o := .cells #[.int .i64 0, .int .i64 0, .int .u64 0, .string (⟨#[]⟩ : ByteArray), .slice none 0 0] 27 (0, 0)) (by (with_reducible repeat (first | refine blk_drewN ?_ _ | refine blk_drew ?_ | refine blk_alloc ?_ _)); exact BK192.out) hb); have n3_ := Aside0.mk (below_step (by repeat (first | (with_reducible first | exact HB.out | apply below_alloc | apply pw_below_drewN | apply below_drew1 | refine below_set ?_ GE190.out | refine below_set ?_ GE191.out | refine below_set ?_ GE192.out) | exact HB.out)) hb); clear BK190; clear BK191; clear BK192; clear HB; have BK190 := n0_; have BK191 := n1_; have BK192 := n2_; have HB := n3_; clear n0_ n1_ n2_ n3_; (try clear hb); (try clear hb2); (try clear hk); (try clear hi); have hnb11 := NB191_190.out; have hnc11 := NB190_191.out; have hnb12 := NB191_192.out; have hnc12 := NB192_191.out; have hcz13_0 : w10.cell? ⟨gb191, 0, none⟩ = some (.int .i64 a1_0) := (blk_cell BK191.out 0).trans rfl; have hcz13_1 : w10.cell? ⟨gb191, 1, none⟩ = some (.int .i64 a1_1) := (blk_cell BK191.out 1).trans rfl; have hcz13_2 : w10.cell? ⟨gb191, 2, none⟩ = some (.int .u64 a1_2) := (blk_cell BK191.out 2).trans rfl; have hcz13_3 : w10.cell? ⟨gb191, 3, none⟩ = some (.string a1_3) := (blk_cell BK191.out 3).trans rfl; have hcz13_4 : w10.cell? ⟨gb191, 4, none⟩ = some (.slice A1_4 l1_4.length c1_4) := (blk_cell BK191.out 4).trans rfl; have hfz13_0 := blk_frozen BK191.out 0; have hfz13_1 := blk_frozen BK191.out 1; have hfz13_2 := blk_frozen BK191.out 2; have hfz13_3 := blk_frozen BK191.out 3; have hfz13_4 := blk_frozen BK191.out 4))
   go_meet
   case rel => exact ⟨_, ((a1_0 != 7)), (by first | rfl | (simp; done) | (simp [*]; done)), H', ⟨by first | omega | exact Nat.le_refl _⟩, ⟨by (with_reducible repeat (first | refine blk_drewN ?_ _ | refine blk_drew ?_ | refine blk_alloc ?_ _)); exact BK190.out⟩, ⟨by (with_reducible repeat (first | refine blk_drewN ?_ _ | refine blk_drew ?_ | refine blk_alloc ?_ _)); exact BK191.out⟩, ⟨by (with_reducible repeat (first | refine blk_drewN ?_ _ | refine blk_drew ?_ | refine blk_alloc ?_ _)); exact BK192.out⟩, ⟨by repeat (first | (with_reducible first | exact HB.out | apply below_alloc | apply pw_below_drewN | apply below_drew1 | refine below_set ?_ GE190.out | refine below_set ?_ GE191.out | refine below_set ?_ GE192.out) | exact HB.out)⟩⟩
  ·
   rw [if_neg c9] at H
   have c9b0 : (t193 == 3) = false := beq_eq_false_iff_ne.mpr c9
   have c9b1 : (t193 != 3) = true := bne_iff_ne.mpr c9
   (first | rw [c9b0] | (simp only [i64_w, i32_w]; rw [c9b0]) | skip)
   have H' := Aside0.mk H
   clear H
   go_wp2_with (first | ((with_reducible refine gate_callee (f := 51) rfl ?_); refine goesL_ (some 8) rfl rfl Try.func51 (by kernel_rfl) rfl #[.string a2] rfl (by (try simp only [List.map_toArray, List.map_cons, List.map_nil]); first | done | rfl | (simp only [List.length_drop, List.length_take]; rfl)) ?_; (with_reducible refine (words_Kind.calls a2 t193 _ A8.out).mono ?_); rintro e w14 ⟨rfl, hb⟩; refine ⟨_, rfl, ?_⟩; have n0_ := Aside0.mk (blk_below (g := gb190) (o := .cells #[.slice A0_0 l0_0.length c0_0, .bool a0_1, .int .i64 a0_2] 73 (0, 0)) (by (with_reducible repeat (first | refine blk_drewN ?_ _ | refine blk_drew ?_ | refine blk_alloc ?_ _)); exact BK190.out) hb); have n1_ := Aside0.mk (blk_below (g := gb191) (o := .cells #[.int .i64 a1_0, .int .i64 a1_1, .int .u64 a1_2, .string a1_3, .slice A1_4 l1_4.length c1_4] 27 (0, 0)) (by (with_reducible repeat (first | refine blk_drewN ?_ _ | refine blk_drew ?_ | refine blk_alloc ?_ _)); exact BK191.out) hb); have n2_ := Aside0.mk (blk_below (g := gb192) (o := .cells #[.int .i64 0, .int .i64 0, .int .u64 0, .string (⟨#[]⟩ : ByteArray), .slice none 0 0] 27 (0, 0)) (by (with_reducible repeat (first | refine blk_drewN ?_ _ | refine blk_drew ?_ | refine blk_alloc ?_ _)); exact BK192.out) hb); have n3_ := Aside0.mk (below_step (by repeat (first | (with_reducible first | exact HB.out | apply below_alloc | apply pw_below_drewN | apply below_drew1 | refine below_set ?_ GE190.out | refine below_set ?_ GE191.out | refine below_set ?_ GE192.out) | exact HB.out)) hb); clear BK190; clear BK191; clear BK192; clear HB; have BK190 := n0_; have BK191 := n1_; have BK192 := n2_; have HB := n3_; clear n0_ n1_ n2_ n3_; (try clear hb); (try clear hb2); (try clear hk); (try clear hi)))
   go_meet
   case rel => exact ⟨_, (true), (by first | rfl | (simp; done) | (simp [*]; done)), H', ⟨by first | omega | exact Nat.le_refl _⟩, ⟨by (with_reducible repeat (first | refine blk_drewN ?_ _ | refine blk_drew ?_ | refine blk_alloc ?_ _)); exact BK190.out⟩, ⟨by (with_reducible repeat (first | refine blk_drewN ?_ _ | refine blk_drew ?_ | refine blk_alloc ?_ _)); exact BK191.out⟩, ⟨by (with_reducible repeat (first | refine blk_drewN ?_ _ | refine blk_drew ?_ | refine blk_alloc ?_ _)); exact BK192.out⟩, ⟨by repeat (first | (with_reducible first | exact HB.out | apply below_alloc | apply pw_below_drewN | apply below_drew1 | refine below_set ?_ GE190.out | refine below_set ?_ GE191.out | refine below_set ?_ GE192.out) | exact HB.out)⟩⟩
 case rest =>
  clear HC4
  try clear c1
  try clear p2
  try clear c3
  try clear c5
  try clear c9
  try clear c9b0
  try clear c9b1
  try clear c11
  try clear c12
  try clear hcz13_0
  try clear hcz13_1
  try clear hcz13_2
  try clear hcz13_3
  try clear hcz13_4
  try clear hfz13_0
  try clear hfz13_1
  try clear hfz13_2
  try clear hfz13_3
  try clear hfz13_4
  obtain ⟨kq, x14_3, rfl, HA, HJ3, BK190, BK191, BK192, HB⟩ := hcut
  cases kq with
  | zero => exact absurd HA.out (by simp [coerce_caster_leaves.j0])
  | succ kj3 =>
   have H := HA.out
   clear HA
   simp only [coerce_caster_leaves.j0] at H
   by_cases c15 : x14_3 = true
   ·
    subst c15
    have H1 : ((api_Layer_52.f l1_4).bind fun t194 => (some (a1_0, a1_1, a1_2, a1_3, t194))) = some (r1, r2, r3, r4, r5) := by rw [if_pos rfl] at H; exact H
    clear H
    have H := H1
    clear H1
    replace H := Option.bind_eq_some_iff.mp H
    obtain ⟨t194, A160, H⟩ := H
    replace H : (some (a1_0, a1_1, a1_2, a1_3, t194)) = some (r1, r2, r3, r4, r5) := H
    have A16 := Aside0.mk A160
    clear A160
    simp only [Option.some.injEq, Prod.mk.injEq] at H
    obtain ⟨rfl, rfl, rfl, rfl, rfl⟩ := H
    have hnb17 := NB191_190.out
    have hnc17 := NB190_191.out
    have hnb18 := NB191_192.out
    have hnc18 := NB192_191.out
    have hcz19_0 : wc.cell? ⟨gb191, 0, none⟩ = some (.int .i64 a1_0) := (blk_cell BK191.out 0).trans rfl
    have hcz19_1 : wc.cell? ⟨gb191, 1, none⟩ = some (.int .i64 a1_1) := (blk_cell BK191.out 1).trans rfl
    have hcz19_2 : wc.cell? ⟨gb191, 2, none⟩ = some (.int .u64 a1_2) := (blk_cell BK191.out 2).trans rfl
    have hcz19_3 : wc.cell? ⟨gb191, 3, none⟩ = some (.string a1_3) := (blk_cell BK191.out 3).trans rfl
    have hcz19_4 : wc.cell? ⟨gb191, 4, none⟩ = some (.slice A1_4 l1_4.length c1_4) := (blk_cell BK191.out 4).trans rfl
    have hfz19_0 := blk_frozen BK191.out 0
    have hfz19_1 := blk_frozen BK191.out 1
    have hfz19_2 := blk_frozen BK191.out 2
    have hfz19_3 := blk_frozen BK191.out 3
    have hfz19_4 := blk_frozen BK191.out 4
    go_wp2_with (first | ((with_reducible refine gate_callee (f := 52) rfl ?_); refine goesL_ (some 17) rfl rfl Try.func52 (by kernel_rfl) rfl #[.slice A1_4 l1_4.length c1_4] rfl (by (try simp only [List.map_toArray, List.map_cons, List.map_nil]); first | done | rfl | (simp only [List.length_drop, List.length_take]; rfl)) ?_; (with_reducible refine (api_Layer_52.calls _ _ l1_4 t194 _ ?side1 ?side2 A16.out).mono ?_); (case side1 => repeat (first | exact (Kd.C_below HR1_4.out HB.out) | (with_reducible refine Kd.C_alloc ?_ _) | (with_reducible refine Kd.C_drewN ?_ _) | (with_reducible refine Kd.C_drew ?_))); (case side2 => exact HC1_4.out); rintro e w20 ⟨v195, rfl, ho0, hb⟩; refine ⟨_, rfl, ?_⟩; have n0_ := Aside0.mk (Kd.R_lower ho0 (below_size (by repeat (first | (with_reducible first | exact HB.out | apply below_alloc | apply pw_below_drewN | apply below_drew1 | refine below_set ?_ GE190.out | refine below_set ?_ GE191.out | refine below_set ?_ GE192.out) | exact HB.out)))); have n1_ := Aside0.mk (blk_below (g := gb190) (o := .cells #[.slice A0_0 l0_0.length c0_0, .bool a0_1, .int .i64 a0_2] 73 (0, 0)) (by (with_reducible repeat (first | refine blk_drewN ?_ _ | refine blk_drew ?_ | refine blk_alloc ?_ _)); exact BK190.out) hb); have n2_ := Aside0.mk (blk_below (g := gb191) (o := .cells #[.int .i64 a1_0, .int .i64 a1_1, .int .u64 a1_2, .string a1_3, .slice A1_4 l1_4.length c1_4] 27 (0, 0)) (by (with_reducible repeat (first | refine blk_drewN ?_ _ | refine blk_drew ?_ | refine blk_alloc ?_ _)); exact BK191.out) hb); have n3_ := Aside0.mk (blk_below (g := gb192) (o := .cells #[.int .i64 0, .int .i64 0, .int .u64 0, .string (⟨#[]⟩ : ByteArray), .slice none 0 0] 27 (0, 0)) (by (with_reducible repeat (first | refine blk_drewN ?_ _ | refine blk_drew ?_ | refine blk_alloc ?_ _)); exact BK192.out) hb); have n4_ := Aside0.mk (below_step (by repeat (first | (with_reducible first | exact HB.out | apply below_alloc | apply pw_below_drewN | apply below_drew1 | refine below_set ?_ GE190.out | refine below_set ?_ GE191.out | refine below_set ?_ GE192.out) | exact HB.out)) hb); clear BK190; clear BK191; clear BK192; clear HB; have HO196 := n0_; have BK190 := n1_; have BK191 := n2_; have BK192 := n3_; have HB := n4_; clear n0_ n1_ n2_ n3_ n4_; (try clear hb); (try clear hb2); (try clear hk); (try clear hi); (try clear ho0); obtain ⟨Ao21, co21, eo21⟩ := Kd.R_slice HO196.out; subst eo21; have hcz22_0 : w20.cell? ⟨gb191, 0, none⟩ = some (.int .i64 a1_0) := (blk_cell BK191.out 0).trans rfl; have hcz22_1 : w20.cell? ⟨gb191, 1, none⟩ = some (.int .i64 a1_1) := (blk_cell BK191.out 1).trans rfl; have hcz22_2 : w20.cell? ⟨gb191, 2, none⟩ = some (.int .u64 a1_2) := (blk_cell BK191.out 2).trans rfl; have hcz22_3 : w20.cell? ⟨gb191, 3, none⟩ = some (.string a1_3) := (blk_cell BK191.out 3).trans rfl; have hcz22_4 : w20.cell? ⟨gb191, 4, none⟩ = some (.slice A1_4 l1_4.length c1_4) := (blk_cell BK191.out 4).trans rfl; have hfz22_0 := blk_frozen BK191.out 0; have hfz22_1 := blk_frozen BK191.out 1; have hfz22_2 := blk_frozen BK191.out 2; have hfz22_3 := blk_frozen BK191.out 3; have hfz22_4 := blk_frozen BK191.out 4; have hnb23 := NB192_190.out; have hnc23 := NB190_192.out; have hcz24_0 : w20.cell? ⟨gb192, 0, none⟩ = some (.int .i64 0) := (blk_cell BK192.out 0).trans rfl; have hcz24_1 : w20.cell? ⟨gb192, 1, none⟩ = some (.int .i64 0) := (blk_cell BK192.out 1).trans rfl; have hcz24_2 : w20.cell? ⟨gb192, 2, none⟩ = some (.int .u64 0) := (blk_cell BK192.out 2).trans rfl; have hcz24_3 : w20.cell? ⟨gb192, 3, none⟩ = some (.string (⟨#[]⟩ : ByteArray)) := (blk_cell BK192.out 3).trans rfl; have hcz24_4 : w20.cell? ⟨gb192, 4, none⟩ = some (.slice none 0 0) := (blk_cell BK192.out 4).trans rfl; have hfz24_0 := blk_frozen BK192.out 0; have hfz24_1 := blk_frozen BK192.out 1; have hfz24_2 := blk_frozen BK192.out 2; have hfz24_3 := blk_frozen BK192.out 3; have hfz24_4 := blk_frozen BK192.out 4))
    refine bodyPost_ret (results_cell_row rfl _ _ gb192 27 #[.int .i64 a1_0, .int .i64 a1_1, .int .u64 a1_2, .string a1_3, .slice Ao21 t194.length co21] (0, 0) _ rfl (by (with_reducible repeat (first | refine blk_drewN ?_ _ | refine blk_drew ?_ | refine blk_alloc ?_ _)); refine blk_put (cs := #[.int .i64 a1_0, .int .i64 a1_1, .int .u64 a1_2, .string a1_3, .slice none 0 0]) ?_ 4 _ rfl; (with_reducible repeat (first | refine blk_drewN ?_ _ | refine blk_drew ?_ | refine blk_alloc ?_ _)); refine blk_put (cs := #[.int .i64 a1_0, .int .i64 a1_1, .int .u64 a1_2, .string (⟨#[]⟩ : ByteArray), .slice none 0 0]) ?_ 3 _ rfl; (with_reducible repeat (first | refine blk_drewN ?_ _ | refine blk_drew ?_ | refine blk_alloc ?_ _)); refine blk_put (cs := #[.int .i64 a1_0, .int .i64 a1_1, .int .u64 0, .string (⟨#[]⟩ : ByteArray), .slice none 0 0]) ?_ 2 _ rfl; (with_reducible repeat (first | refine blk_drewN ?_ _ | refine blk_drew ?_ | refine blk_alloc ?_ _)); refine blk_put (cs := #[.int .i64 a1_0, .int .i64 0, .int .u64 0, .string (⟨#[]⟩ : ByteArray), .slice none 0 0]) ?_ 1 _ rfl; (with_reducible repeat (first | refine blk_drewN ?_ _ | refine blk_drew ?_ | refine blk_alloc ?_ _)); refine blk_put (cs := #[.int .i64 0, .int .i64 0, .int .u64 0, .string (⟨#[]⟩ : ByteArray), .slice none 0 0]) ?_ 0 _ rfl; (with_reducible repeat (first | refine blk_drewN ?_ _ | refine blk_drew ?_ | refine blk_alloc ?_ _)); refine blk_far ?_ NB192_191.out _; (with_reducible repeat (first | refine blk_drewN ?_ _ | refine blk_drew ?_ | refine blk_alloc ?_ _)); exact BK192.out) Try.underlying27 rfl (by kernel_rfl)) rfl ?_
    exact ⟨_, by first | rfl | (simp [errW_none, errW_some] <;> rfl) | (simp [*, errW_none, errW_some] <;> rfl), by (with_reducible repeat (first | apply Kd.R_alloc | apply Kd.R_drewN | apply Kd.R_drew)); exact Kd.R_mono (Kd.R_far (p := ⟨gb192, 4, none⟩) (Kd.R_far (p := ⟨gb192, 3, none⟩) (Kd.R_far (p := ⟨gb192, 2, none⟩) (Kd.R_far (p := ⟨gb192, 1, none⟩) (Kd.R_far (p := ⟨gb192, 0, none⟩) (Kd.R_far (p := ⟨gb191, 4, none⟩) (Kd.R_types (Kd.R_types HO196.out BK191.out (by decide)) BK192.out (by decide)) (fun _ hk => hk.1.2) (.slice Ao21 t194.length co21)) (fun _ hk => hk.2) (.int .i64 a1_0)) (fun _ hk => hk.2) (.int .i64 a1_1)) (fun _ hk => hk.2) (.int .u64 a1_2)) (fun _ hk => hk.2) (.string a1_3)) (fun _ hk => hk.2) (.slice Ao21 t194.length co21)) (fun _ hk => trivial), by repeat (first | (with_reducible first | exact HB.out | apply below_alloc | apply pw_below_drewN | apply below_drew1 | refine below_set ?_ GE190.out | refine below_set ?_ GE191.out | refine below_set ?_ GE192.out) | exact HB.out)⟩
   ·
    replace c15 := Bool.eq_false_iff.mpr c15
    subst c15
    have H1 : ((coerce_caster_behind.f l0_0 a0_1 a0_2 a1_0 a1_1 a1_2 a1_3 l1_4 false a2).bind fun bt197 => (some (bt197.1, bt197.2.1, bt197.2.2.1, bt197.2.2.2.1, bt197.2.2.2.2))) = some (r1, r2, r3, r4, r5) := by rw [if_neg (show ¬ (false = true) by decide)] at H; exact H
    clear H
    have H := H1
    clear H1
    replace H := Option.bind_eq_some_iff.mp H
    obtain ⟨⟨t197, t198, t199, t200, t201⟩, A250, H⟩ := H
    replace H : (some (t197, t198, t199, t200, t201)) = some (r1, r2, r3, r4, r5) := H
    have A25 := Aside0.mk A250
    clear A250
    simp only [Option.some.injEq, Prod.mk.injEq] at H
    obtain ⟨rfl, rfl, rfl, rfl, rfl⟩ := H
    have hnb26 := NB190_191.out
    have hnc26 := NB191_190.out
    have hnb27 := NB190_192.out
    have hnc27 := NB192_190.out
    have hcz28_0 : wc.cell? ⟨gb190, 0, none⟩ = some (.slice A0_0 l0_0.length c0_0) := (blk_cell BK190.out 0).trans rfl
    have hcz28_1 : wc.cell? ⟨gb190, 1, none⟩ = some (.bool a0_1) := (blk_cell BK190.out 1).trans rfl
    have hcz28_2 : wc.cell? ⟨gb190, 2, none⟩ = some (.int .i64 a0_2) := (blk_cell BK190.out 2).trans rfl
    have hfz28_0 := blk_frozen BK190.out 0
    have hfz28_1 := blk_frozen BK190.out 1
    have hfz28_2 := blk_frozen BK190.out 2
    have hnb29 := NB191_192.out
    have hnc29 := NB192_191.out
    have hcz30_0 : wc.cell? ⟨gb191, 0, none⟩ = some (.int .i64 a1_0) := (blk_cell BK191.out 0).trans rfl
    have hcz30_1 : wc.cell? ⟨gb191, 1, none⟩ = some (.int .i64 a1_1) := (blk_cell BK191.out 1).trans rfl
    have hcz30_2 : wc.cell? ⟨gb191, 2, none⟩ = some (.int .u64 a1_2) := (blk_cell BK191.out 2).trans rfl
    have hcz30_3 : wc.cell? ⟨gb191, 3, none⟩ = some (.string a1_3) := (blk_cell BK191.out 3).trans rfl
    have hcz30_4 : wc.cell? ⟨gb191, 4, none⟩ = some (.slice A1_4 l1_4.length c1_4) := (blk_cell BK191.out 4).trans rfl
    have hfz30_0 := blk_frozen BK191.out 0
    have hfz30_1 := blk_frozen BK191.out 1
    have hfz30_2 := blk_frozen BK191.out 2
    have hfz30_3 := blk_frozen BK191.out 3
    have hfz30_4 := blk_frozen BK191.out 4
    go_wp2_with (first | ((with_reducible refine gate_callee (f := 53) rfl ?_); refine goesL_ (some 23) rfl rfl Try.func53 (by kernel_rfl) rfl #[.agg #[.slice A0_0 l0_0.length c0_0, .bool a0_1, .int .i64 a0_2], .agg #[.int .i64 a1_0, .int .i64 a1_1, .int .u64 a1_2, .string a1_3, .slice A1_4 l1_4.length c1_4], .bool false, .string a2] rfl (by (try simp only [List.map_toArray, List.map_cons, List.map_nil]); first | done | rfl | (simp only [List.length_drop, List.length_take]; rfl)) ?_; (with_reducible refine (coerce_caster_behind.calls _ _ l0_0 a0_1 a0_2 a1_0 a1_1 a1_2 a1_3 _ _ l1_4 false a2 t197 t198 t199 t200 t201 _ ?side1 ?side2 ?side3 ?side4 A25.out).mono ?_); (case side1 => repeat (first | exact (Kd.C_below HR0_0.out HB.out) | (with_reducible refine Kd.C_alloc ?_ _) | (with_reducible refine Kd.C_drewN ?_ _) | (with_reducible refine Kd.C_drew ?_))); (case side2 => exact HC0_0.out); (case side3 => repeat (first | exact (Kd.C_below HR1_4.out HB.out) | (with_reducible refine Kd.C_alloc ?_ _) | (with_reducible refine Kd.C_drewN ?_ _) | (with_reducible refine Kd.C_drew ?_))); (case side4 => exact HC1_4.out); rintro e w31 ⟨v202, rfl, ho0, hb⟩; refine ⟨_, rfl, ?_⟩; have n0_ := Aside0.mk (Kd.R_lower ho0 (below_size (by repeat (first | (with_reducible first | exact HB.out | apply below_alloc | apply pw_below_drewN | apply below_drew1 | refine below_set ?_ GE190.out | refine below_set ?_ GE191.out | refine below_set ?_ GE192.out) | exact HB.out)))); have n1_ := Aside0.mk (blk_below (g := gb190) (o := .cells #[.slice A0_0 l0_0.length c0_0, .bool a0_1, .int .i64 a0_2] 73 (0, 0)) (by (with_reducible repeat (first | refine blk_drewN ?_ _ | refine blk_drew ?_ | refine blk_alloc ?_ _)); exact BK190.out) hb); have n2_ := Aside0.mk (blk_below (g := gb191) (o := .cells #[.int .i64 a1_0, .int .i64 a1_1, .int .u64 a1_2, .string a1_3, .slice A1_4 l1_4.length c1_4] 27 (0, 0)) (by (with_reducible repeat (first | refine blk_drewN ?_ _ | refine blk_drew ?_ | refine blk_alloc ?_ _)); exact BK191.out) hb); have n3_ := Aside0.mk (blk_below (g := gb192) (o := .cells #[.int .i64 0, .int .i64 0, .int .u64 0, .string (⟨#[]⟩ : ByteArray), .slice none 0 0] 27 (0, 0)) (by (with_reducible repeat (first | refine blk_drewN ?_ _ | refine blk_drew ?_ | refine blk_alloc ?_ _)); exact BK192.out) hb); have n4_ := Aside0.mk (below_step (by repeat (first | (with_reducible first | exact HB.out | apply below_alloc | apply pw_below_drewN | apply below_drew1 | refine below_set ?_ GE190.out | refine below_set ?_ GE191.out | refine below_set ?_ GE192.out) | exact HB.out)) hb); clear BK190; clear BK191; clear BK192; clear HB; have HO203 := n0_; have BK190 := n1_; have BK191 := n2_; have BK192 := n3_; have HB := n4_; clear n0_ n1_ n2_ n3_ n4_; (try clear hb); (try clear hb2); (try clear hk); (try clear hi); (try clear ho0); have hcz32_0 : w31.cell? ⟨gb192, 0, none⟩ = some (.int .i64 0) := (blk_cell BK192.out 0).trans rfl; have hcz32_1 : w31.cell? ⟨gb192, 1, none⟩ = some (.int .i64 0) := (blk_cell BK192.out 1).trans rfl; have hcz32_2 : w31.cell? ⟨gb192, 2, none⟩ = some (.int .u64 0) := (blk_cell BK192.out 2).trans rfl; have hcz32_3 : w31.cell? ⟨gb192, 3, none⟩ = some (.string (⟨#[]⟩ : ByteArray)) := (blk_cell BK192.out 3).trans rfl; have hcz32_4 : w31.cell? ⟨gb192, 4, none⟩ = some (.slice none 0 0) := (blk_cell BK192.out 4).trans rfl; have hfz32_0 := blk_frozen BK192.out 0; have hfz32_1 := blk_frozen BK192.out 1; have hfz32_2 := blk_frozen BK192.out 2; have hfz32_3 := blk_frozen BK192.out 3; have hfz32_4 := blk_frozen BK192.out 4; obtain ⟨Ao33, co33, eo33⟩ := Kd.R_slice HO203.out; subst eo33))
    refine bodyPost_ret (results_cell_row rfl _ _ gb192 27 #[.int .i64 t197, .int .i64 t198, .int .u64 t199, .string t200, .slice Ao33 t201.length co33] (0, 0) _ rfl (by (with_reducible repeat (first | refine blk_drewN ?_ _ | refine blk_drew ?_ | refine blk_alloc ?_ _)); refine blk_put (cs := #[.int .i64 t197, .int .i64 t198, .int .u64 t199, .string t200, .slice none 0 0]) ?_ 4 _ rfl; (with_reducible repeat (first | refine blk_drewN ?_ _ | refine blk_drew ?_ | refine blk_alloc ?_ _)); refine blk_put (cs := #[.int .i64 t197, .int .i64 t198, .int .u64 t199, .string (⟨#[]⟩ : ByteArray), .slice none 0 0]) ?_ 3 _ rfl; (with_reducible repeat (first | refine blk_drewN ?_ _ | refine blk_drew ?_ | refine blk_alloc ?_ _)); refine blk_put (cs := #[.int .i64 t197, .int .i64 t198, .int .u64 0, .string (⟨#[]⟩ : ByteArray), .slice none 0 0]) ?_ 2 _ rfl; (with_reducible repeat (first | refine blk_drewN ?_ _ | refine blk_drew ?_ | refine blk_alloc ?_ _)); refine blk_put (cs := #[.int .i64 t197, .int .i64 0, .int .u64 0, .string (⟨#[]⟩ : ByteArray), .slice none 0 0]) ?_ 1 _ rfl; (with_reducible repeat (first | refine blk_drewN ?_ _ | refine blk_drew ?_ | refine blk_alloc ?_ _)); refine blk_put (cs := #[.int .i64 0, .int .i64 0, .int .u64 0, .string (⟨#[]⟩ : ByteArray), .slice none 0 0]) ?_ 0 _ rfl; (with_reducible repeat (first | refine blk_drewN ?_ _ | refine blk_drew ?_ | refine blk_alloc ?_ _)); exact BK192.out) Try.underlying27 rfl (by kernel_rfl)) rfl ?_
    exact ⟨_, by first | rfl | (simp [errW_none, errW_some] <;> rfl) | (simp [*, errW_none, errW_some] <;> rfl), by (with_reducible repeat (first | apply Kd.R_alloc | apply Kd.R_drewN | apply Kd.R_drew)); exact Kd.R_mono (Kd.R_far (p := ⟨gb192, 4, none⟩) (Kd.R_far (p := ⟨gb192, 3, none⟩) (Kd.R_far (p := ⟨gb192, 2, none⟩) (Kd.R_far (p := ⟨gb192, 1, none⟩) (Kd.R_far (p := ⟨gb192, 0, none⟩) (Kd.R_types HO203.out BK192.out (by decide)) (fun _ hk => hk.2) (.int .i64 t197)) (fun _ hk => hk.2) (.int .i64 t198)) (fun _ hk => hk.2) (.int .u64 t199)) (fun _ hk => hk.2) (.string t200)) (fun _ hk => hk.2) (.slice Ao33 t201.length co33)) (fun _ hk => trivial), by repeat (first | (with_reducible first | exact HB.out | apply below_alloc | apply pw_below_drewN | apply below_drew1 | refine below_set ?_ GE190.out | refine below_set ?_ GE191.out | refine below_set ?_ GE192.out) | exact HB.out)⟩
end Go.Proofs.Ytinkbljjpafadaa.PAll
end

section
namespace Go.Proofs.Ytinkbljjpafadaa.PAll
open Go.RowKit Go.Proofs.YtinkbljjpafadaaW.PrintWords Go.Proofs.YtinkbljjpafadaaW.PrintLast Go.Proofs.YtinkbljjpafadaaW.PrintMore
attribute [local go_sem] max2_int min2_int max_two min_two max_three min_three max_four min_four   -- for this text's walks alone
set_option linter.unusedVariables false
set_option linter.unusedSimpArgs false
def coerce_Leave.f (k : Nat) (l0 : List (S64)) (a1_0 : Int) (a1_1 : Int) (a1_2 : Int) (a1_3 : ByteArray) (l1_4 : List (S35)) (a2 : ByteArray) (a3 : Int) (a4 : Bool) : Option (Int × Int × Int × ByteArray × (List (S35))) := (coerce_caster_leaves.f k l0 a4 a3 a1_0 a1_1 a1_2 a1_3 l1_4 a2).bind fun bt206 => (some (bt206.1, bt206.2.1, bt206.2.2.1, bt206.2.2.2.1, bt206.2.2.2.2))
theorem coerce_Leave.mono : ∀ a0 a1 a2 a3 a4 a5 a6 a7 a8 k, LeO (coerce_Leave.f k a0 a1 a2 a3 a4 a5 a6 a7 a8) (coerce_Leave.f (k + 1) a0 a1 a2 a3 a4 a5 a6 a7 a8) := by
 intro a0 a1 a2 a3 a4 a5 a6 a7 a8 k
 unfold coerce_Leave.f
 repeat' first
   | (with_reducible exact coerce_caster_leaves.mono _ _ _ _ _ _ _ _ _ _)
   | (with_reducible exact LeO.refl _)
   | (with_reducible exact LeO.none _)
   | (with_reducible refine LeO.ite ?_ ?_)
   | (with_reducible refine LeO.bind ?_ (fun _ => ?_))
   | exact coerce_caster_leaves.mono _ _ _ _ _ _ _ _ _ _
   | exact LeO.none _
   | refine LeO.ite ?_ ?_
   | refine LeO.bind ?_ (fun _ => ?_)
set_option maxHeartbeats 8000000 in
set_option maxRecDepth 100000 in
theorem coerce_Leave.calls (k : Nat) (A0 : Option Addr) (c0 : Nat) (l0 : List (S64)) (a1_0 : Int) (a1_1 : Int) (a1_2 : Int) (a1_3 : ByteArray) (A1_4 : Option Addr) (c1_4 : Nat) (l1_4 : List (S35)) (a2 : ByteArray) (a3 : Int) (a4 : Bool) (r1 : Int) (r2 : Int) (r3 : Int) (r4 : ByteArray) (r5 : List (S35)) (w : World) (hr0 : Kd.C k64 w A0 l0.length l0) (hc0 : l0.length ≤ c0) (hr1_4 : Kd.C k35 w A1_4 l1_4.length l1_4) (hc1_4 : l1_4.length ≤ c1_4) (h : coerce_Leave.f k l0 a1_0 a1_1 a1_2 a1_3 l1_4 a2 a3 a4 = some (r1, r2, r3, r4, r5)) :
  Calls Try.prog 15 #[.slice A0 l0.length c0, .agg #[.int .i64 a1_0, .int .i64 a1_1, .int .u64 a1_2, .string a1_3, .slice A1_4 l1_4.length c1_4], .string a2, .int .i64 a3, .bool a4] w fun e w' => ∃ v4_ : Value, e = .returned (.agg #[.int .i64 r1, .int .i64 r2, .int .u64 r3, .string r4, v4_]) ∧ Kd.R k35 35 w' w.heap.size (fun _ => True) v4_ r5 ∧ Below w.heap.size w w' := by
 have hu27 := Try.underlying27
 have hu73 := Try.underlying73
 have HR0 := Aside0.mk hr0
 have HC0 := Aside0.mk hc0
 clear hr0 hc0
 have HR1_4 := Aside0.mk hr1_4
 have HC1_4 := Aside0.mk hc1_4
 clear hr1_4 hc1_4
 have HB := Aside0.mk (Below.refl w.heap.size w)
 have H : ((coerce_caster_leaves.f k l0 a4 a3 a1_0 a1_1 a1_2 a1_3 l1_4 a2).bind fun bt206 => (some (bt206.1, bt206.2.1, bt206.2.2.1, bt206.2.2.2.1, bt206.2.2.2.2))) = some (r1, r2, r3, r4, r5) := h
 clear h
 replace H := Option.bind_eq_some_iff.mp H
 obtain ⟨⟨t206, t207, t208, t209, t210⟩, A60, H⟩ := H
 replace H : (some (t206, t207, t208, t209, t210)) = some (r1, r2, r3, r4, r5) := H
 have A6 := Aside0.mk A60
 clear A60
 simp only [Option.some.injEq, Prod.mk.injEq] at H
 obtain ⟨rfl, rfl, rfl, rfl, rfl⟩ := H
 go_enter Try.func15, Try.ntmps15
 go_wp2_with (first | ((with_reducible refine gate_dst (N := 6) rfl ?_); refine box_event ?hg (N := 6) ?hd (cs := #[.int .i64 a1_0, .int .i64 a1_1, .int .u64 a1_2, .string a1_3, .slice A1_4 l1_4.length c1_4]) (t := 27) ?hr ?_; (case hd => rfl); (case hg => rfl); (case hr => first | (go_simp; done) | (go_simp; rfl)); intro gb204 hg w7 hbox hb; have n0_ := Aside0.mk (below_step (by repeat (first | (with_reducible first | exact HB.out | apply below_alloc | apply pw_below_drewN | apply below_drew1) | exact HB.out)) hb); have n1_ := Aside0.mk (hbox); have n2_ := Aside0.mk ((by rw [hg]; exact (below_size (by repeat (first | (with_reducible first | exact HB.out | apply below_alloc | apply pw_below_drewN | apply below_drew1) | exact HB.out))) : w.heap.size ≤ gb204)); have n3_ := Aside0.mk ((by rw [hg]; exact (below_size (by repeat (first | (with_reducible first | exact HB.out | apply below_alloc | apply pw_below_drewN | apply below_drew1) | exact HB.out))) : w.heap.size ≤ gb204)); clear HB; have HB := n0_; have BK204 := n1_; have GW204 := n2_; have GE204 := n3_; clear n0_ n1_ n2_ n3_; clear hb hbox hg) | ((with_reducible refine gate_dst (N := 10) rfl ?_); refine box_event ?hg (N := 10) ?hd (cs := #[.int .i64 0, .int .i64 0, .int .u64 0, .string (⟨#[]⟩ : ByteArray), .slice none 0 0]) (t := 27) ?hr ?_; (case hd => rfl); (case hg => rfl); (case hr => first | (go_simp; done) | (go_simp; rfl)); intro gb205 hg w8 hbox hb; have n0_ := Aside0.mk (blk_below (g := gb204) (o := .cells #[.int .i64 a1_0, .int .i64 a1_1, .int .u64 a1_2, .string a1_3, .slice A1_4 l1_4.length c1_4] 27 (0, 0)) (by (with_reducible repeat (first | refine blk_drewN ?_ _ | refine blk_drew ?_ | refine blk_alloc ?_ _)); exact BK204.out) hb); have n1_ := Aside0.mk (below_step (by repeat (first | (with_reducible first | exact HB.out | apply below_alloc | apply pw_below_drewN | apply below_drew1 | refine below_set ?_ GE204.out) | exact HB.out)) hb); have n2_ := Aside0.mk (hbox); have n3_ := Aside0.mk ((by rw [hg]; exact (below_size (by repeat (first | (with_reducible first | exact HB.out | apply below_alloc | apply pw_below_drewN | apply below_drew1 | refine below_set ?_ GE204.out) | exact HB.out))) : w.heap.size ≤ gb205)); have n4_ := Aside0.mk ((by rw [hg]; exact (below_size (by repeat (first | (with_reducible first | exact HB.out | apply below_alloc | apply pw_below_drewN | apply below_drew1 | refine below_set ?_ GE204.out) | exact HB.out))) : w.heap.size ≤ gb205)); have n5_ := Aside0.mk ((by rw [hg]; exact Nat.ne_of_lt (blk_lt (g := gb204) (o := .cells #[.int .i64 a1_0, .int .i64 a1_1, .int .u64 a1_2, .string a1_3, .slice A1_4 l1_4.length c1_4] 27 (0, 0)) (by (with_reducible repeat (first | refine blk_drewN ?_ _ | refine blk_drew ?_ | refine blk_alloc ?_ _)); exact BK204.out)) : gb204 ≠ gb205)); have n6_ := Aside0.mk ((by rw [hg]; exact Nat.ne_of_gt (blk_lt (g := gb204) (o := .cells #[.int .i64 a1_0, .int .i64 a1_1, .int .u64 a1_2, .string a1_3, .slice A1_4 l1_4.length c1_4] 27 (0, 0)) (by (with_reducible repeat (first | refine blk_drewN ?_ _ | refine blk_drew ?_ | refine blk_alloc ?_ _)); exact BK204.out)) : gb205 ≠ gb204)); clear BK204; clear HB; have BK204 := n0_; have HB := n1_; have BK205 := n2_; have GW205 := n3_; have GE205 := n4_; have NB204_205 := n5_; have NB205_204 := n6_; clear n0_ n1_ n2_ n3_ n4_ n5_ n6_; clear hb hbox hg; have hnb9 := NB204_205.out; have hnc9 := NB205_204.out; have hcz10_0 : w8.cell? ⟨gb204, 0, none⟩ = some (.int .i64 a1_0) := (blk_cell BK204.out 0).trans rfl; have hcz10_1 : w8.cell? ⟨gb204, 1, none⟩ = some (.int .i64 a1_1) := (blk_cell BK204.out 1).trans rfl; have hcz10_2 : w8.cell? ⟨gb204, 2, none⟩ = some (.int .u64 a1_2) := (blk_cell BK204.out 2).trans rfl; have hcz10_3 : w8.cell? ⟨gb204, 3, none⟩ = some (.string a1_3) := (blk_cell BK204.out 3).trans rfl; have hcz10_4 : w8.cell? ⟨gb204, 4, none⟩ = some (.slice A1_4 l1_4.length c1_4) := (blk_cell BK204.out 4).trans rfl; have hfz10_0 := blk_frozen BK204.out 0; have hfz10_1 := blk_frozen BK204.out 1; have hfz10_2 := blk_frozen BK204.out 2; have hfz10_3 := blk_frozen BK204.out 3; have hfz10_4 := blk_frozen BK204.out 4) | ((with_reducible refine gate_callee (f := 36) rfl ?_); refine goesL_ (some 17) rfl rfl Try.func36 (by kernel_rfl) rfl #[.agg #[.slice A0 l0.length c0, .bool a4, .int .i64 a3], .agg #[.int .i64 a1_0, .int .i64 a1_1, .int .u64 a1_2, .string a1_3, .slice A1_4 l1_4.length c1_4], .string a2] rfl (by (try simp only [List.map_toArray, List.map_cons, List.map_nil]); first | done | rfl | (simp only [List.length_drop, List.length_take]; rfl)) ?_; (with_reducible refine (coerce_caster_leaves.calls k _ _ l0 a4 a3 a1_0 a1_1 a1_2 a1_3 _ _ l1_4 a2 t206 t207 t208 t209 t210 _ ?side1 ?side2 ?side3 ?side4 A6.out).mono ?_); (case side1 => repeat (first | exact (Kd.C_below HR0.out HB.out) | (with_reducible refine Kd.C_alloc ?_ _) | (with_reducible refine Kd.C_drewN ?_ _) | (with_reducible refine Kd.C_drew ?_))); (case side2 => exact HC0.out); (case side3 => repeat (first | exact (Kd.C_below HR1_4.out HB.out) | (with_reducible refine Kd.C_alloc ?_ _) | (with_reducible refine Kd.C_drewN ?_ _) | (with_reducible refine Kd.C_drew ?_))); (case side4 => exact HC1_4.out); rintro e w11 ⟨v211, rfl, ho0, hb⟩; refine ⟨_, rfl, ?_⟩; have n0_ := Aside0.mk (Kd.R_lower ho0 (below_size (by repeat (first | (with_reducible first | exact HB.out | apply below_alloc | apply pw_below_drewN | apply below_drew1 | refine below_set ?_ GE204.out | refine below_set ?_ GE205.out) | exact HB.out)))); have n1_ := Aside0.mk (blk_below (g := gb204) (o := .cells #[.int .i64 a1_0, .int .i64 a1_1, .int .u64 a1_2, .string a1_3, .slice A1_4 l1_4.length c1_4] 27 (0, 0)) (by (with_reducible repeat (first | refine blk_drewN ?_ _ | refine blk_drew ?_ | refine blk_alloc ?_ _)); exact BK204.out) hb); have n2_ := Aside0.mk (blk_below (g := gb205) (o := .cells #[.int .i64 0, .int .i64 0, .int .u64 0, .string (⟨#[]⟩ : ByteArray), .slice none 0 0] 27 (0, 0)) (by (with_reducible repeat (first | refine blk_drewN ?_ _ | refine blk_drew ?_ | refine blk_alloc ?_ _)); exact BK205.out) hb); have n3_ := Aside0.mk (below_step (by repeat (first | (with_reducible first | exact HB.out | apply below_alloc | apply pw_below_drewN | apply below_drew1 | refine below_set ?_ GE204.out | refine below_set ?_ GE205.out) | exact HB.out)) hb); clear BK204; clear BK205; clear HB; have HO212 := n0_; have BK204 := n1_; have BK205 := n2_; have HB := n3_; clear n0_ n1_ n2_ n3_; (try clear hb); (try clear hb2); (try clear hk); (try clear hi); (try clear ho0); have hcz12_0 : w11.cell? ⟨gb205, 0, none⟩ = some (.int .i64 0) := (blk_cell BK205.out 0).trans rfl; have hcz12_1 : w11.cell? ⟨gb205, 1, none⟩ = some (.int .i64 0) := (blk_cell BK205.out 1).trans rfl; have hcz12_2 : w11.cell? ⟨gb205, 2, none⟩ = some (.int .u64 0) := (blk_cell BK205.out 2).trans rfl; have hcz12_3 : w11.cell? ⟨gb205, 3, none⟩ = some (.string (⟨#[]⟩ : ByteArray)) := (blk_cell BK205.out 3).trans rfl; have hcz12_4 : w11.cell? ⟨gb205, 4, none⟩ = some (.slice none 0 0) := (blk_cell BK205.out 4).trans rfl; have hfz12_0 := blk_frozen BK205.out 0; have hfz12_1 := blk_frozen BK205.out 1; have hfz12_2 := blk_frozen BK205.out 2; have hfz12_3 := blk_frozen BK205.out 3; have hfz12_4 := blk_frozen BK205.out 4; obtain ⟨Ao13, co13, eo13⟩ := Kd.R_slice HO212.out; subst eo13))
 refine bodyPost_ret (results_cell_row rfl _ _ gb205 27 #[.int .i64 t206, .int .i64 t207, .int .u64 t208, .string t209, .slice Ao13 t210.length co13] (0, 0) _ rfl (by (with_reducible repeat (first | refine blk_drewN ?_ _ | refine blk_drew ?_ | refine blk_alloc ?_ _)); refine blk_put (cs := #[.int .i64 t206, .int .i64 t207, .int .u64 t208, .string t209, .slice none 0 0]) ?_ 4 _ rfl; (with_reducible repeat (first | refine blk_drewN ?_ _ | refine blk_drew ?_ | refine blk_alloc ?_ _)); refine blk_put (cs := #[.int .i64 t206, .int .i64 t207, .int .u64 t208, .string (⟨#[]⟩ : ByteArray), .slice none 0 0]) ?_ 3 _ rfl; (with_reducible repeat (first | refine blk_drewN ?_ _ | refine blk_drew ?_ | refine blk_alloc ?_ _)); refine blk_put (cs := #[.int .i64 t206, .int .i64 t207, .int .u64 0, .string (⟨#[]⟩ : ByteArray), .slice none 0 0]) ?_ 2 _ rfl; (with_reducible repeat (first | refine blk_drewN ?_ _ | refine blk_drew ?_ | refine blk_alloc ?_ _)); refine blk_put (cs := #[.int .i64 t206, .int .i64 0, .int .u64 0, .string (⟨#[]⟩ : ByteArray), .slice none 0 0]) ?_ 1 _ rfl; (with_reducible repeat (first | refine blk_drewN ?_ _ | refine blk_drew ?_ | refine blk_alloc ?_ _)); refine blk_put (cs := #[.int .i64 0, .int .i64 0, .int .u64 0, .string (⟨#[]⟩ : ByteArray), .slice none 0 0]) ?_ 0 _ rfl; (with_reducible repeat (first | refine blk_drewN ?_ _ | refine blk_drew ?_ | refine blk_alloc ?_ _)); exact BK205.out) Try.underlying27 rfl (by kernel_rfl)) rfl ?_
 exact ⟨_, by first | rfl | (simp [errW_none, errW_some] <;> rfl) | (simp [*, errW_none, errW_some] <;> rfl), by (with_reducible repeat (first | apply Kd.R_alloc | apply Kd.R_drewN | apply Kd.R_drew)); exact Kd.R_mono (Kd.R_far (p := ⟨gb205, 4, none⟩) (Kd.R_far (p := ⟨gb205, 3, none⟩) (Kd.R_far (p := ⟨gb205, 2, none⟩) (Kd.R_far (p := ⟨gb205, 1, none⟩) (Kd.R_far (p := ⟨gb205, 0, none⟩) (Kd.R_types HO212.out BK205.out (by decide)) (fun _ hk => hk.2) (.int .i64 t206)) (fun _ hk => hk.2) (.int .i64 t207)) (fun _ hk => hk.2) (.int .u64 t208)) (fun _ hk => hk.2) (.string t209)) (fun _ hk => hk.2) (.slice Ao13 t210.length co13)) (fun _ hk => trivial), by repeat (first | (with_reducible first | exact HB.out | apply below_alloc | apply pw_below_drewN | apply below_drew1 | refine below_set ?_ GE204.out | refine below_set ?_ GE205.out) | exact HB.out)⟩
end Go.Proofs.Ytinkbljjpafadaa.PAll
end

section
namespace Go.Proofs.Ytinkbljjpafadaa.PAll
open Go.RowKit Go.Proofs.YtinkbljjpafadaaW.PrintWords Go.Proofs.YtinkbljjpafadaaW.PrintLast Go.Proofs.YtinkbljjpafadaaW.PrintMore
attribute [local go_sem] max2_int min2_int max_two min_two max_three min_three max_four min_four   -- for this text's walks alone
set_option linter.unusedVariables false
set_option linter.unusedSimpArgs false
open Go.Proofs.YtinkbljjpafadaaTab in
def coerce_Enter.ent (k : Nat) (l0 : List (S64)) (a1_0 a1_1 a1_2 : Int) (a1_3 : ByteArray) (l1_4 : List (S35)) (a2 : ByteArray) (a3 : Int) (a4 : Bool) : Option (Option Val) :=
 (words_Tag.f a2).bind fun tg => (words_Kind.f a2).bind fun kd => (api_Layer_52.f l1_4).bind fun ch =>
 if kd = 2 then some (some (a1_0, a1_1, a1_2, a1_3, ch)) else if kd = 1 then (if a1_0 = tg.1 then some (some (a1_0, a1_1, a1_2, a1_3, ch)) else some none)
 else if kd = 3 then (if a1_0 = 6 then some (some (a1_0, a1_1, a1_2, a1_3, ch)) else (coerce_Shows.f k l0 a1_0 a1_1 a1_2 a1_3 l1_4).bind fun sh => if a1_0 = 7 then (table_Members.f k l0 a2).bind fun ms => (if sh.length < 4398046511104 ∧ ms.length < 4398046511104 then (if (ms.any fun x => !hasM sh x) = true then some none else (coerce_caster_behind.f l0 a4 a3 a1_0 a1_1 a1_2 a1_3 l1_4 true a2).bind fun r => some (some r)) else none) else some none)
 else some none
open Go.Proofs.YtinkbljjpafadaaTab in
def coerce_Enter.out (a3 : Int) : Option Val → Int × Int × Int × ByteArray × List (S35) × Int
 | some (a, b, c, s, l) => (a, b, c, s, l, 0)
 | none => (0, 0, 0, (⟨#[]⟩ : ByteArray), [], a3)
def coerce_Enter.f (k : Nat) (l0 : List (S64)) (a1_0 a1_1 a1_2 : Int) (a1_3 : ByteArray) (l1_4 : List (S35)) (a2 : ByteArray) (a3 : Int) (a4 : Bool) : Option (Int × Int × Int × ByteArray × List (S35) × Int) :=
 (coerce_Enter.ent k l0 a1_0 a1_1 a1_2 a1_3 l1_4 a2 a3 a4).bind fun o => some (coerce_Enter.out a3 o)
theorem coerce_Enter.ent_mono : ∀ l0 a1_0 a1_1 a1_2 a1_3 l1_4 a2 a3 a4 k, LeO (coerce_Enter.ent k l0 a1_0 a1_1 a1_2 a1_3 l1_4 a2 a3 a4) (coerce_Enter.ent (k + 1) l0 a1_0 a1_1 a1_2 a1_3 l1_4 a2 a3 a4) := by
 intro l0 a1_0 a1_1 a1_2 a1_3 l1_4 a2 a3 a4 k
 unfold coerce_Enter.ent
 exact LeO.bind (LeO.refl _) (fun tg => LeO.bind (LeO.refl _) (fun kd => LeO.bind (LeO.refl _) (fun ch => LeO.ite (LeO.refl _) (LeO.ite (LeO.refl _) (LeO.ite (LeO.ite (LeO.refl _) (LeO.bind (coerce_Shows.mono l0 a1_0 a1_1 a1_2 a1_3 l1_4 k) (fun sh => LeO.ite (LeO.bind (table_Members.mono l0 a2 k) (fun ms => LeO.refl _)) (LeO.refl _)))) (LeO.refl _))))))
theorem coerce_Enter.mono : ∀ l0 a1_0 a1_1 a1_2 a1_3 l1_4 a2 a3 a4 k, LeO (coerce_Enter.f k l0 a1_0 a1_1 a1_2 a1_3 l1_4 a2 a3 a4) (coerce_Enter.f (k + 1) l0 a1_0 a1_1 a1_2 a1_3 l1_4 a2 a3 a4) := by
 intro l0 a1_0 a1_1 a1_2 a1_3 l1_4 a2 a3 a4 k
 unfold coerce_Enter.f
 exact LeO.bind (coerce_Enter.ent_mono l0 a1_0 a1_1 a1_2 a1_3 l1_4 a2 a3 a4 k) (fun o => LeO.refl _)
theorem coerce_Enter.clone {l r : List (S35)} (h : api_Layer_52.f l = some r) : r = l := by
 unfold api_Layer_52.f at h
 split at h
 ·
  exact (Option.some.inj h).symm
 ·
  cases h
open Go.Proofs.YtinkbljjpafadaaTab in
set_option maxHeartbeats 1000000 in
set_option maxRecDepth 100000 in
theorem coerce_Enter.tells (k : Nat) (A0 : Option Addr) (c0 : Nat) (l0 : List (S64)) (a1_0 a1_1 a1_2 : Int) (a1_3 : ByteArray) (A1_4 : Option Addr) (c1_4 : Nat) (l1_4 : List (S35)) (a2 : ByteArray) (a3 : Int) (a4 : Bool) (o : Option Val) (w : World) (hr0 : Kd.C k64 w A0 l0.length l0) (hc0 : l0.length ≤ c0) (hr1_4 : Kd.C k35 w A1_4 l1_4.length l1_4) (hc1_4 : l1_4.length ≤ c1_4) (h : coerce_Enter.ent k l0 a1_0 a1_1 a1_2 a1_3 l1_4 a2 a3 a4 = some o) :
  Calls Try.prog 47 #[.agg #[.slice A0 l0.length c0, .bool a4, .int .i64 a3], .agg #[.int .i64 a1_0, .int .i64 a1_1, .int .u64 a1_2, .string a1_3, .slice A1_4 l1_4.length c1_4], .string a2] w (Ent a3 w o) := by
 unfold coerce_Enter.ent at h
 obtain ⟨tg, htg, h⟩ := Option.bind_eq_some_iff.1 h
 obtain ⟨kd, hkd, h⟩ := Option.bind_eq_some_iff.1 h
 obtain ⟨ch, hch, h⟩ := Option.bind_eq_some_iff.1 h
 obtain rfl := coerce_Enter.clone hch
 refine enters_calls A0 c0 l0 a4 a3 a1_0 a1_1 a1_2 a1_3 A1_4 c1_4 ch a2 tg.1 tg.2 kd o w
  (fun w' hb => api_Layer_52.calls A1_4 c1_4 ch ch w' (Kd.C_below hr1_4 hb) hc1_4 hch)
  (fun w' hb => words_Tag.calls a2 tg.1 tg.2 w' htg) (fun w' hb => words_Kind.calls a2 kd w' hkd) ?_
 unfold EntK
 by_cases k2 : kd = 2
 ·
  rw [if_pos k2] at h
  exact .inl ⟨k2, (Option.some.inj h).symm⟩
 rw [if_neg k2] at h
 by_cases k1 : kd = 1
 ·
  rw [if_pos k1] at h
  by_cases ht : a1_0 = tg.1
  ·
   rw [if_pos ht] at h
   exact .inr (.inl ⟨k1, ht, (Option.some.inj h).symm⟩)
  ·
   rw [if_neg ht] at h
   exact .inr (.inr (.inl ⟨k1, ht, (Option.some.inj h).symm⟩))
 rw [if_neg k1] at h
 by_cases k3 : kd = 3
 ·
  rw [if_pos k3] at h
  by_cases h6 : a1_0 = 6
  ·
   rw [if_pos h6] at h
   exact .inr (.inr (.inr (.inl ⟨k3, h6, (Option.some.inj h).symm⟩)))
  ·
   rw [if_neg h6] at h
   obtain ⟨sh, hsh, h⟩ := Option.bind_eq_some_iff.1 h
   have hs : TellsR k33 33 8 #[.slice A0 l0.length c0, .agg #[.int .i64 a1_0, .int .i64 a1_1, .int .u64 a1_2, .string a1_3, .slice A1_4 ch.length c1_4]] sh w :=
    fun w' hb => coerce_Shows.calls k A0 c0 l0 a1_0 a1_1 a1_2 a1_3 A1_4 c1_4 ch sh w' (Kd.C_below hr0 hb) hc0 (Kd.C_below hr1_4 hb) hc1_4 hsh
   by_cases h7 : a1_0 = 7
   ·
    rw [if_pos h7] at h
    obtain ⟨ms, hms, h⟩ := Option.bind_eq_some_iff.1 h
    by_cases hl : sh.length < 4398046511104 ∧ ms.length < 4398046511104
    ·
     rw [if_pos hl] at h
     refine .inr (.inr (.inr (.inr (.inr (.inl ⟨k3, h7, sh, ms, hs, fun w' hb => table_Members.calls k A0 c0 l0 a2 ms w' (Kd.C_below hr0 hb) hc0 hms, hl.1, hl.2, ?_⟩)))))
     by_cases ha : (ms.any fun x => !hasM sh x) = true
     ·
      rw [if_pos ha] at h
      exact .inl ⟨ha, (Option.some.inj h).symm⟩
     ·
      rw [if_neg ha] at h
      obtain ⟨r, hr, h⟩ := Option.bind_eq_some_iff.1 h
      obtain rfl := Option.some.inj h
      obtain ⟨r1, r2, r3, r4, r5⟩ := r
      exact .inr ⟨by simpa using ha, rfl, fun w' hb => coerce_caster_behind.calls A0 c0 l0 a4 a3 a1_0 a1_1 a1_2 a1_3 A1_4 c1_4 ch true a2 r1 r2 r3 r4 r5 w' (Kd.C_below hr0 hb) hc0 (Kd.C_below hr1_4 hb) hc1_4 hr⟩
    ·
     rw [if_neg hl] at h; cases h
   ·
    rw [if_neg h7] at h
    exact .inr (.inr (.inr (.inr (.inl ⟨k3, h6, h7, (Option.some.inj h).symm, sh, hs⟩))))
 rw [if_neg k3] at h
 exact .inr (.inr (.inr (.inr (.inr (.inr ⟨k1, k2, k3, (Option.some.inj h).symm⟩)))))
open Go.Proofs.YtinkbljjpafadaaTab in
set_option maxHeartbeats 1000000 in
set_option maxRecDepth 100000 in
theorem coerce_Enter.calls (k : Nat) (A0 : Option Addr) (c0 : Nat) (l0 : List (S64)) (a1_0 a1_1 a1_2 : Int) (a1_3 : ByteArray) (A1_4 : Option Addr) (c1_4 : Nat) (l1_4 : List (S35)) (a2 : ByteArray) (a3 : Int) (a4 : Bool) (r1 r2 r3 : Int) (r4 : ByteArray) (r5 : List (S35)) (r6 : Int) (w : World) (hr0 : Kd.C k64 w A0 l0.length l0) (hc0 : l0.length ≤ c0) (hr1_4 : Kd.C k35 w A1_4 l1_4.length l1_4) (hc1_4 : l1_4.length ≤ c1_4) (h : coerce_Enter.f k l0 a1_0 a1_1 a1_2 a1_3 l1_4 a2 a3 a4 = some (r1, r2, r3, r4, r5, r6)) :
  Calls Try.prog 30 #[.slice A0 l0.length c0, .agg #[.int .i64 a1_0, .int .i64 a1_1, .int .u64 a1_2, .string a1_3, .slice A1_4 l1_4.length c1_4], .string a2, .int .i64 a3, .bool a4] w fun e w' => ∃ v4_ : Value, e = .returned (.tuple #[.agg #[.int .i64 r1, .int .i64 r2, .int .u64 r3, .string r4, v4_], .int .i64 r6]) ∧ Kd.R k35 35 w' w.heap.size (fun _ => True) v4_ r5 ∧ Below w.heap.size w w' := by
 unfold coerce_Enter.f at h
 obtain ⟨o, ho, h⟩ := Option.bind_eq_some_iff.1 h
 refine (Enter_calls A0 c0 l0 a4 a3 a1_0 a1_1 a1_2 a1_3 A1_4 c1_4 l1_4.length a2 o w (fun w' hb => coerce_Enter.tells k A0 c0 l0 a1_0 a1_1 a1_2 a1_3 A1_4 c1_4 l1_4 a2 a3 a4 o w' (Kd.C_below hr0 hb) hc0 (Kd.C_below hr1_4 hb) hc1_4 ho)).mono ?_
 intro e w' hE
 cases o with
 | none =>
  simp only [coerce_Enter.out, Option.some.injEq, Prod.mk.injEq] at h
  obtain ⟨rfl, rfl, rfl, rfl, rfl, rfl⟩ := h
  obtain ⟨rfl, hb⟩ := hE
  exact ⟨_, rfl, Kd.R_nil _ _ _ _ _, hb⟩
 | some o =>
  obtain ⟨x1, x2, x3, x4, x5⟩ := o
  simp only [coerce_Enter.out, Option.some.injEq, Prod.mk.injEq] at h
  obtain ⟨rfl, rfl, rfl, rfl, rfl, rfl⟩ := h
  obtain ⟨v, rfl, hR, hb⟩ := hE
  exact ⟨v, rfl, hR, hb⟩
end Go.Proofs.Ytinkbljjpafadaa.PAll
end

section
namespace Go.Proofs.Ytinkbljjpafadaa.PAll
open Go.RowKit Go.Proofs.YtinkbljjpafadaaW.PrintWords Go.Proofs.YtinkbljjpafadaaW.PrintLast Go.Proofs.YtinkbljjpafadaaW.PrintMore
attribute [local go_sem] max2_int min2_int max_two min_two max_three min_three max_four min_four   -- for this text's walks alone
set_option linter.unusedVariables false
set_option linter.unusedSimpArgs false
def coerce_Cast.f (k : Nat) (l0 : List (S64)) (a1_0 : Int) (a1_1 : Int) (a1_2 : Int) (a1_3 : ByteArray) (l1_4 : List (S35)) (a2 : ByteArray) (a3 : ByteArray) (a4 : Int) (a5 : Bool) : Option (Int × Int × Int × ByteArray × (List (S35)) × Int) := (coerce_Leave.f k l0 a1_0 a1_1 a1_2 a1_3 l1_4 a2 (wrap64 (-a4)) a5).bind fun bt215 => ((coerce_Enter.f k l0 bt215.1 bt215.2.1 bt215.2.2.1 bt215.2.2.2.1 bt215.2.2.2.2 a3 a4 a5).bind fun bt222 => (some (bt222.1, bt222.2.1, bt222.2.2.1, bt222.2.2.2.1, bt222.2.2.2.2.1, bt222.2.2.2.2.2)))
theorem coerce_Cast.mono : ∀ a0 a1 a2 a3 a4 a5 a6 a7 a8 a9 k, LeO (coerce_Cast.f k a0 a1 a2 a3 a4 a5 a6 a7 a8 a9) (coerce_Cast.f (k + 1) a0 a1 a2 a3 a4 a5 a6 a7 a8 a9) := by
 intro a0 a1 a2 a3 a4 a5 a6 a7 a8 a9 k
 unfold coerce_Cast.f
 repeat' first
   | (with_reducible exact coerce_Enter.mono _ _ _ _ _ _ _ _ _ _)
   | (with_reducible exact coerce_Leave.mono _ _ _ _ _ _ _ _ _ _)
   | (with_reducible exact LeO.refl _)
   | (with_reducible exact LeO.none _)
   | (with_reducible refine LeO.ite ?_ ?_)
   | (with_reducible refine LeO.bind ?_ (fun _ => ?_))
   | exact coerce_Enter.mono _ _ _ _ _ _ _ _ _ _
   | exact coerce_Leave.mono _ _ _ _ _ _ _ _ _ _
   | exact LeO.none _
   | refine LeO.ite ?_ ?_
   | refine LeO.bind ?_ (fun _ => ?_)
set_option maxHeartbeats 8000000 in
set_option maxRecDepth 100000 in
theorem coerce_Cast.calls (k : Nat) (A0 : Option Addr) (c0 : Nat) (l0 : List (S64)) (a1_0 : Int) (a1_1 : Int) (a1_2 : Int) (a1_3 : ByteArray) (A1_4 : Option Addr) (c1_4 : Nat) (l1_4 : List (S35)) (a2 : ByteArray) (a3 : ByteArray) (a4 : Int) (a5 : Bool) (r1 : Int) (r2 : Int) (r3 : Int) (r4 : ByteArray) (r5 : List (S35)) (r6 : Int) (w : World) (hr0 : Kd.C k64 w A0 l0.length l0) (hc0 : l0.length ≤ c0) (hr1_4 : Kd.C k35 w A1_4 l1_4.length l1_4) (hc1_4 : l1_4.length ≤ c1_4) (h : coerce_Cast.f k l0 a1_0 a1_1 a1_2 a1_3 l1_4 a2 a3 a4 a5 = some (r1, r2, r3, r4, r5, r6)) :
  Calls Try.prog 25 #[.slice A0 l0.length c0, .agg #[.int .i64 a1_0, .int .i64 a1_1, .int .u64 a1_2, .string a1_3, .slice A1_4 l1_4.length c1_4], .string a2, .string a3, .int .i64 a4, .bool a5] w fun e w' => ∃ v4_ : Value, e = .returned (.tuple #[.agg #[.int .i64 r1, .int .i64 r2, .int .u64 r3, .string r4, v4_], .int .i64 r6]) ∧ Kd.R k35 35 w' w.heap.size (fun _ => True) v4_ r5 ∧ Below w.heap.size w w' := by
 have hu27 := Try.underlying27
 have HR0 := Aside0.mk hr0
 have HC0 := Aside0.mk hc0
 clear hr0 hc0
 have HR1_4 := Aside0.mk hr1_4
 have HC1_4 := Aside0.mk hc1_4
 clear hr1_4 hc1_4
 have HB := Aside0.mk (Below.refl w.heap.size w)
 have H : ((coerce_Leave.f k l0 a1_0 a1_1 a1_2 a1_3 l1_4 a2 (wrap64 (-a4)) a5).bind fun bt215 => ((coerce_Enter.f k l0 bt215.1 bt215.2.1 bt215.2.2.1 bt215.2.2.2.1 bt215.2.2.2.2 a3 a4 a5).bind fun bt222 => (some (bt222.1, bt222.2.1, bt222.2.2.1, bt222.2.2.2.1, bt222.2.2.2.2.1, bt222.2.2.2.2.2)))) = some (r1, r2, r3, r4, r5, r6) := h
 clear h
 replace H := Option.bind_eq_some_iff.mp H
 obtain ⟨⟨t215, t216, t217, t218, t219⟩, A70, H⟩ := H
 replace H : ((coerce_Enter.f k l0 t215 t216 t217 t218 t219 a3 a4 a5).bind fun bt222 => (some (bt222.1, bt222.2.1, bt222.2.2.1, bt222.2.2.2.1, bt222.2.2.2.2.1, bt222.2.2.2.2.2))) = some (r1, r2, r3, r4, r5, r6) := H
 have A7 := Aside0.mk A70
 clear A70
 replace H := Option.bind_eq_some_iff.mp H
 obtain ⟨⟨t222, t223, t224, t225, t226, t229⟩, A80, H⟩ := H
 replace H : (some (t222, t223, t224, t225, t226, t229)) = some (r1, r2, r3, r4, r5, r6) := H
 have A8 := Aside0.mk A80
 clear A80
 simp only [Option.some.injEq, Prod.mk.injEq] at H
 obtain ⟨rfl, rfl, rfl, rfl, rfl, rfl⟩ := H
 go_enter Try.func25, Try.ntmps25
 go_wp2_with (first | ((with_reducible refine gate_dst (N := 7) rfl ?_); refine box_event ?hg (N := 7) ?hd (cs := #[.int .i64 a1_0, .int .i64 a1_1, .int .u64 a1_2, .string a1_3, .slice A1_4 l1_4.length c1_4]) (t := 27) ?hr ?_; (case hd => rfl); (case hg => rfl); (case hr => first | (go_simp; done) | (go_simp; rfl)); intro gb213 hg w9 hbox hb; have n0_ := Aside0.mk (below_step (by repeat (first | (with_reducible first | exact HB.out | apply below_alloc | apply pw_below_drewN | apply below_drew1) | exact HB.out)) hb); have n1_ := Aside0.mk (hbox); have n2_ := Aside0.mk ((by rw [hg]; exact (below_size (by repeat (first | (with_reducible first | exact HB.out | apply below_alloc | apply pw_below_drewN | apply below_drew1) | exact HB.out))) : w.heap.size ≤ gb213)); have n3_ := Aside0.mk ((by rw [hg]; exact (below_size (by repeat (first | (with_reducible first | exact HB.out | apply below_alloc | apply pw_below_drewN | apply below_drew1) | exact HB.out))) : w.heap.size ≤ gb213)); clear HB; have HB := n0_; have BK213 := n1_; have GW213 := n2_; have GE213 := n3_; clear n0_ n1_ n2_ n3_; clear hb hbox hg) | ((with_reducible refine gate_dst (N := 12) rfl ?_); refine box_event ?hg (N := 12) ?hd (cs := #[.int .i64 0, .int .i64 0, .int .u64 0, .string (⟨#[]⟩ : ByteArray), .slice none 0 0]) (t := 27) ?hr ?_; (case hd => rfl); (case hg => rfl); (case hr => first | (go_simp; done) | (go_simp; rfl)); intro gb214 hg w10 hbox hb; have n0_ := Aside0.mk (blk_below (g := gb213) (o := .cells #[.int .i64 a1_0, .int .i64 a1_1, .int .u64 a1_2, .string a1_3, .slice A1_4 l1_4.length c1_4] 27 (0, 0)) (by (with_reducible repeat (first | refine blk_drewN ?_ _ | refine blk_drew ?_ | refine blk_alloc ?_ _)); exact BK213.out) hb); have n1_ := Aside0.mk (below_step (by repeat (first | (with_reducible first | exact HB.out | apply below_alloc | apply pw_below_drewN | apply below_drew1 | refine below_set ?_ GE213.out) | exact HB.out)) hb); have n2_ := Aside0.mk (hbox); have n3_ := Aside0.mk ((by rw [hg]; exact (below_size (by repeat (first | (with_reducible first | exact HB.out | apply below_alloc | apply pw_below_drewN | apply below_drew1 | refine below_set ?_ GE213.out) | exact HB.out))) : w.heap.size ≤ gb214)); have n4_ := Aside0.mk ((by rw [hg]; exact (below_size (by repeat (first | (with_reducible first | exact HB.out | apply below_alloc | apply pw_below_drewN | apply below_drew1 | refine below_set ?_ GE213.out) | exact HB.out))) : w.heap.size ≤ gb214)); have n5_ := Aside0.mk ((by rw [hg]; exact Nat.ne_of_lt (blk_lt (g := gb213) (o := .cells #[.int .i64 a1_0, .int .i64 a1_1, .int .u64 a1_2, .string a1_3, .slice A1_4 l1_4.length c1_4] 27 (0, 0)) (by (with_reducible repeat (first | refine blk_drewN ?_ _ | refine blk_drew ?_ | refine blk_alloc ?_ _)); exact BK213.out)) : gb213 ≠ gb214)); have n6_ := Aside0.mk ((by rw [hg]; exact Nat.ne_of_gt (blk_lt (g := gb213) (o := .cells #[.int .i64 a1_0, .int .i64 a1_1, .int .u64 a1_2, .string a1_3, .slice A1_4 l1_4.length c1_4] 27 (0, 0)) (by (with_reducible repeat (first | refine blk_drewN ?_ _ | refine blk_drew ?_ | refine blk_alloc ?_ _)); exact BK213.out)) : gb214 ≠ gb213)); clear BK213; clear HB; have BK213 := n0_; have HB := n1_; have BK214 := n2_; have GW214 := n3_; have GE214 := n4_; have NB213_214 := n5_; have NB214_213 := n6_; clear n0_ n1_ n2_ n3_ n4_ n5_ n6_; clear hb hbox hg; have hnb11 := NB213_214.out; have hnc11 := NB214_213.out; have hcz12_0 : w10.cell? ⟨gb213, 0, none⟩ = some (.int .i64 a1_0) := (blk_cell BK213.out 0).trans rfl; have hcz12_1 : w10.cell? ⟨gb213, 1, none⟩ = some (.int .i64 a1_1) := (blk_cell BK213.out 1).trans rfl; have hcz12_2 : w10.cell? ⟨gb213, 2, none⟩ = some (.int .u64 a1_2) := (blk_cell BK213.out 2).trans rfl; have hcz12_3 : w10.cell? ⟨gb213, 3, none⟩ = some (.string a1_3) := (blk_cell BK213.out 3).trans rfl; have hcz12_4 : w10.cell? ⟨gb213, 4, none⟩ = some (.slice A1_4 l1_4.length c1_4) := (blk_cell BK213.out 4).trans rfl; have hfz12_0 := blk_frozen BK213.out 0; have hfz12_1 := blk_frozen BK213.out 1; have hfz12_2 := blk_frozen BK213.out 2; have hfz12_3 := blk_frozen BK213.out 3; have hfz12_4 := blk_frozen BK213.out 4) | ((with_reducible refine gate_callee (f := 15) rfl ?_); refine goesL_ (some 21) rfl rfl Try.func15 (by kernel_rfl) rfl #[.slice A0 l0.length c0, .agg #[.int .i64 a1_0, .int .i64 a1_1, .int .u64 a1_2, .string a1_3, .slice A1_4 l1_4.length c1_4], .string a2, .int .i64 (wrap64 (-a4)), .bool a5] rfl (by (try simp only [List.map_toArray, List.map_cons, List.map_nil]); first | done | rfl | (simp only [List.length_drop, List.length_take]; rfl)) ?_; (with_reducible refine (coerce_Leave.calls k _ _ l0 a1_0 a1_1 a1_2 a1_3 _ _ l1_4 a2 (wrap64 (-a4)) a5 t215 t216 t217 t218 t219 _ ?side1 ?side2 ?side3 ?side4 A7.out).mono ?_); (case side1 => repeat (first | exact (Kd.C_below HR0.out HB.out) | (with_reducible refine Kd.C_alloc ?_ _) | (with_reducible refine Kd.C_drewN ?_ _) | (with_reducible refine Kd.C_drew ?_))); (case side2 => exact HC0.out); (case side3 => repeat (first | exact (Kd.C_below HR1_4.out HB.out) | (with_reducible refine Kd.C_alloc ?_ _) | (with_reducible refine Kd.C_drewN ?_ _) | (with_reducible refine Kd.C_drew ?_))); (case side4 => exact HC1_4.out); rintro e w13 ⟨v220, rfl, ho0, hb⟩; refine ⟨_, rfl, ?_⟩; have n0_ := Aside0.mk (Kd.R_lower ho0 (below_size (by repeat (first | (with_reducible first | exact HB.out | apply below_alloc | apply pw_below_drewN | apply below_drew1 | refine below_set ?_ GE213.out | refine below_set ?_ GE214.out) | exact HB.out)))); have n1_ := Aside0.mk (blk_below (g := gb213) (o := .cells #[.int .i64 a1_0, .int .i64 a1_1, .int .u64 a1_2, .string a1_3, .slice A1_4 l1_4.length c1_4] 27 (0, 0)) (by (with_reducible repeat (first | refine blk_drewN ?_ _ | refine blk_drew ?_ | refine blk_alloc ?_ _)); exact BK213.out) hb); have n2_ := Aside0.mk (blk_below (g := gb214) (o := .cells #[.int .i64 0, .int .i64 0, .int .u64 0, .string (⟨#[]⟩ : ByteArray), .slice none 0 0] 27 (0, 0)) (by (with_reducible repeat (first | refine blk_drewN ?_ _ | refine blk_drew ?_ | refine blk_alloc ?_ _)); exact BK214.out) hb); have n3_ := Aside0.mk (below_step (by repeat (first | (with_reducible first | exact HB.out | apply below_alloc | apply pw_below_drewN | apply below_drew1 | refine below_set ?_ GE213.out | refine below_set ?_ GE214.out) | exact HB.out)) hb); clear BK213; clear BK214; clear HB; have HO221 := n0_; have BK213 := n1_; have BK214 := n2_; have HB := n3_; clear n0_ n1_ n2_ n3_; (try clear hb); (try clear hb2); (try clear hk); (try clear hi); (try clear ho0); obtain ⟨Ao14, co14, eo14⟩ := Kd.R_slice HO221.out; subst eo14) | ((with_reducible refine gate_callee (f := 30) rfl ?_); refine goesL_ (some 25) rfl rfl Try.func30 (by kernel_rfl) rfl #[.slice A0 l0.length c0, .agg #[.int .i64 t215, .int .i64 t216, .int .u64 t217, .string t218, .slice Ao14 t219.length co14], .string a3, .int .i64 a4, .bool a5] rfl (by (try simp only [List.map_toArray, List.map_cons, List.map_nil]); first | done | rfl | (simp only [List.length_drop, List.length_take]; rfl)) ?_; (with_reducible refine (coerce_Enter.calls k _ _ l0 t215 t216 t217 t218 _ _ t219 a3 a4 a5 t222 t223 t224 t225 t226 t229 _ ?side1 ?side2 ?side3 ?side4 A8.out).mono ?_); (case side1 => repeat (first | exact (Kd.C_below HR0.out HB.out) | (with_reducible refine Kd.C_alloc ?_ _) | (with_reducible refine Kd.C_drewN ?_ _) | (with_reducible refine Kd.C_drew ?_))); (case side2 => exact HC0.out); (case side3 => repeat (first | exact (Kd.R_reads' HO221.out).2.2 | (with_reducible refine Kd.C_alloc ?_ _) | (with_reducible refine Kd.C_drewN ?_ _) | (with_reducible refine Kd.C_drew ?_))); (case side4 => exact (Kd.R_reads' HO221.out).2.1); rintro e w15 ⟨v227, rfl, ho0, hb⟩; refine ⟨_, rfl, ?_⟩; have n0_ := Aside0.mk (Kd.R_elder' (by (with_reducible repeat (first | apply Kd.R_alloc | apply Kd.R_drewN | apply Kd.R_drew)); exact HO221.out) (Kd.R_base ho0) hb); have n1_ := Aside0.mk (Kd.R_lower (Kd.R_new' ho0 (Kd.R_lt (by (with_reducible repeat (first | apply Kd.R_alloc | apply Kd.R_drewN | apply Kd.R_drew)); exact HO221.out))) (below_size (by repeat (first | (with_reducible first | exact HB.out | apply below_alloc | apply pw_below_drewN | apply below_drew1 | refine below_set ?_ GE213.out | refine below_set ?_ GE214.out) | exact HB.out)))); have n2_ := Aside0.mk (blk_below (g := gb213) (o := .cells #[.int .i64 a1_0, .int .i64 a1_1, .int .u64 a1_2, .string a1_3, .slice A1_4 l1_4.length c1_4] 27 (0, 0)) (by (with_reducible repeat (first | refine blk_drewN ?_ _ | refine blk_drew ?_ | refine blk_alloc ?_ _)); exact BK213.out) hb); have n3_ := Aside0.mk (blk_below (g := gb214) (o := .cells #[.int .i64 0, .int .i64 0, .int .u64 0, .string (⟨#[]⟩ : ByteArray), .slice none 0 0] 27 (0, 0)) (by (with_reducible repeat (first | refine blk_drewN ?_ _ | refine blk_drew ?_ | refine blk_alloc ?_ _)); exact BK214.out) hb); have n4_ := Aside0.mk (below_step (by repeat (first | (with_reducible first | exact HB.out | apply below_alloc | apply pw_below_drewN | apply below_drew1 | refine below_set ?_ GE213.out | refine below_set ?_ GE214.out) | exact HB.out)) hb); clear HO221; clear BK213; clear BK214; clear HB; have HO221 := n0_; have HO228 := n1_; have BK213 := n2_; have BK214 := n3_; have HB := n4_; clear n0_ n1_ n2_ n3_ n4_; (try clear hb); (try clear hb2); (try clear hk); (try clear hi); (try clear ho0); have hcz16_0 : w15.cell? ⟨gb214, 0, none⟩ = some (.int .i64 0) := (blk_cell BK214.out 0).trans rfl; have hcz16_1 : w15.cell? ⟨gb214, 1, none⟩ = some (.int .i64 0) := (blk_cell BK214.out 1).trans rfl; have hcz16_2 : w15.cell? ⟨gb214, 2, none⟩ = some (.int .u64 0) := (blk_cell BK214.out 2).trans rfl; have hcz16_3 : w15.cell? ⟨gb214, 3, none⟩ = some (.string (⟨#[]⟩ : ByteArray)) := (blk_cell BK214.out 3).trans rfl; have hcz16_4 : w15.cell? ⟨gb214, 4, none⟩ = some (.slice none 0 0) := (blk_cell BK214.out 4).trans rfl; have hfz16_0 := blk_frozen BK214.out 0; have hfz16_1 := blk_frozen BK214.out 1; have hfz16_2 := blk_frozen BK214.out 2; have hfz16_3 := blk_frozen BK214.out 3; have hfz16_4 := blk_frozen BK214.out 4; obtain ⟨Ao17, co17, eo17⟩ := Kd.R_slice HO228.out; subst eo17))
 refine bodyPost_ret (results_ct rfl _ _ gb214 27 #[.int .i64 t222, .int .i64 t223, .int .u64 t224, .string t225, .slice Ao17 t226.length co17] (0, 0) _ rfl (by (with_reducible repeat (first | refine blk_drewN ?_ _ | refine blk_drew ?_ | refine blk_alloc ?_ _)); refine blk_put (cs := #[.int .i64 t222, .int .i64 t223, .int .u64 t224, .string t225, .slice none 0 0]) ?_ 4 _ rfl; (with_reducible repeat (first | refine blk_drewN ?_ _ | refine blk_drew ?_ | refine blk_alloc ?_ _)); refine blk_put (cs := #[.int .i64 t222, .int .i64 t223, .int .u64 t224, .string (⟨#[]⟩ : ByteArray), .slice none 0 0]) ?_ 3 _ rfl; (with_reducible repeat (first | refine blk_drewN ?_ _ | refine blk_drew ?_ | refine blk_alloc ?_ _)); refine blk_put (cs := #[.int .i64 t222, .int .i64 t223, .int .u64 0, .string (⟨#[]⟩ : ByteArray), .slice none 0 0]) ?_ 2 _ rfl; (with_reducible repeat (first | refine blk_drewN ?_ _ | refine blk_drew ?_ | refine blk_alloc ?_ _)); refine blk_put (cs := #[.int .i64 t222, .int .i64 0, .int .u64 0, .string (⟨#[]⟩ : ByteArray), .slice none 0 0]) ?_ 1 _ rfl; (with_reducible repeat (first | refine blk_drewN ?_ _ | refine blk_drew ?_ | refine blk_alloc ?_ _)); refine blk_put (cs := #[.int .i64 0, .int .i64 0, .int .u64 0, .string (⟨#[]⟩ : ByteArray), .slice none 0 0]) ?_ 0 _ rfl; (with_reducible repeat (first | refine blk_drewN ?_ _ | refine blk_drew ?_ | refine blk_alloc ?_ _)); exact BK214.out) Try.underlying27 rfl (by kernel_rfl)) rfl ?_
 exact ⟨_, by first | rfl | (simp [errW_none, errW_some] <;> rfl) | (simp [*, errW_none, errW_some] <;> rfl), by (with_reducible repeat (first | apply Kd.R_alloc | apply Kd.R_drewN | apply Kd.R_drew)); exact Kd.R_mono (Kd.R_far (p := ⟨gb214, 4, none⟩) (Kd.R_far (p := ⟨gb214, 3, none⟩) (Kd.R_far (p := ⟨gb214, 2, none⟩) (Kd.R_far (p := ⟨gb214, 1, none⟩) (Kd.R_far (p := ⟨gb214, 0, none⟩) (Kd.R_types HO228.out BK214.out (by decide)) (fun _ hk => hk.2) (.int .i64 t222)) (fun _ hk => hk.2) (.int .i64 t223)) (fun _ hk => hk.2) (.int .u64 t224)) (fun _ hk => hk.2) (.string t225)) (fun _ hk => hk.2) (.slice Ao17 t226.length co17)) (fun _ hk => trivial), by repeat (first | (with_reducible first | exact HB.out | apply below_alloc | apply pw_below_drewN | apply below_drew1 | refine below_set ?_ GE213.out | refine below_set ?_ GE214.out) | exact HB.out)⟩
end Go.Proofs.Ytinkbljjpafadaa.PAll
end

section
namespace Go.Proofs.Ytinkbljjpafadaa.PAll
open Go.RowKit Go.Proofs.YtinkbljjpafadaaW.PrintWords Go.Proofs.YtinkbljjpafadaaW.PrintLast Go.Proofs.YtinkbljjpafadaaW.PrintMore
attribute [local go_sem] max2_int min2_int max_two min_two max_three min_three max_four min_four   -- for this text's walks alone
set_option linter.unusedVariables false
set_option linter.unusedSimpArgs false
def chaperonlaw16_casts.f (k : Nat) (a0_0 : Int) (a0_1 : Int) (a0_2 : Int) (a0_3 : ByteArray) (l0_4 : List (S35)) (a1 : ByteArray) (a2 : ByteArray) (a3 : Int) (a4_0 : Int) (a4_1 : Int) (a4_2 : Int) (a4_3 : ByteArray) (l4_4 : List (S35)) (a5 : Int) : Option Bool := (chaperonlaw16_some.f).bind fun bF4 => (coerce_Cast.f k bF4 a0_0 a0_1 a0_2 a0_3 l0_4 a1 a2 a3 false).bind fun bF11 => (chaperonkit_SameValue.f k bF11.1 bF11.2.1 bF11.2.2.1 bF11.2.2.2.1 bF11.2.2.2.2.1 a4_0 a4_1 a4_2 a4_3 l4_4).bind fun bF14 => (if bF14 = true then some ((bF11.2.2.2.2.2 == a5)) else some (false))
theorem chaperonlaw16_casts.mono : ∀ a0_0 a0_1 a0_2 a0_3 l0_4 a1 a2 a3 a4_0 a4_1 a4_2 a4_3 l4_4 a5 k, LeO (chaperonlaw16_casts.f k a0_0 a0_1 a0_2 a0_3 l0_4 a1 a2 a3 a4_0 a4_1 a4_2 a4_3 l4_4 a5) (chaperonlaw16_casts.f (k + 1) a0_0 a0_1 a0_2 a0_3 l0_4 a1 a2 a3 a4_0 a4_1 a4_2 a4_3 l4_4 a5) := by
 intro a0_0 a0_1 a0_2 a0_3 l0_4 a1 a2 a3 a4_0 a4_1 a4_2 a4_3 l4_4 a5 k
 unfold chaperonlaw16_casts.f
 repeat' first
  | (with_reducible exact chaperonkit_SameValue.mono _ _ _ _ _ _ _ _ _ _ _)
  | (with_reducible exact coerce_Cast.mono _ _ _ _ _ _ _ _ _ _ _)
  | (with_reducible exact LeO.refl _)
  | (with_reducible exact LeO.none _)
  | (with_reducible refine LeO.ite ?_ ?_)
  | (with_reducible refine LeO.bind ?_ (fun _ => ?_))
open Go.Proofs.YtinkbljjpafadaaRF Go.Proofs.YtinkbljjpafadaaRG in
set_option maxHeartbeats 2000000 in
set_option maxRecDepth 100000 in
theorem chaperonlaw16_casts.calls (k : Nat) (a0_0 : Int) (a0_1 : Int) (a0_2 : Int) (a0_3 : ByteArray) (A0_4 : Option Addr) (c0_4 : Nat) (l0_4 : List (S35)) (a1 : ByteArray) (a2 : ByteArray) (a3 : Int) (a4_0 : Int) (a4_1 : Int) (a4_2 : Int) (a4_3 : ByteArray) (A4_4 : Option Addr) (c4_4 : Nat) (l4_4 : List (S35)) (a5 : Int) (r : Bool) (w : World) (hr0_4 : Kd.C k35 w A0_4 l0_4.length l0_4) (hc0_4 : l0_4.length ≤ c0_4) (hr4_4 : Kd.C k35 w A4_4 l4_4.length l4_4) (hc4_4 : l4_4.length ≤ c4_4) (h : chaperonlaw16_casts.f k a0_0 a0_1 a0_2 a0_3 l0_4 a1 a2 a3 a4_0 a4_1 a4_2 a4_3 l4_4 a5 = some r) :
  Calls Try.prog 12 #[.agg #[.int .i64 a0_0, .int .i64 a0_1, .int .u64 a0_2, .string a0_3, .slice A0_4 l0_4.length c0_4], .string a1, .string a2, .int .i64 a3, .agg #[.int .i64 a4_0, .int .i64 a4_1, .int .u64 a4_2, .string a4_3, .slice A4_4 l4_4.length c4_4], .int .i64 a5] w fun e w' => e = .returned (.bool r) ∧ Below w.heap.size w w' := by
 unfold chaperonlaw16_casts.f at h
 have hu27 := Try.underlying27
 have hu33 := Try.underlying33
 have hu35 := Try.underlying35
 have HB := Aside0.mk (Below.refl w.heap.size w)
 have HC0_4 := Aside0.mk hr0_4
 clear hr0_4
 have HC4_4 := Aside0.mk hr4_4
 clear hr4_4
 replace h := Option.bind_eq_some_iff.1 h
 obtain ⟨t3, F4, h⟩ := h
 try dsimp only at h
 replace F4 := Aside0.mk F4
 replace h := Option.bind_eq_some_iff.1 h
 obtain ⟨⟨t5, t6, t7, t8, t9, t10⟩, F11, h⟩ := h
 try dsimp only at h
 replace F11 := Aside0.mk F11
 replace h := Option.bind_eq_some_iff.1 h
 obtain ⟨t13, F14, h⟩ := h
 try dsimp only at h
 replace F14 := Aside0.mk F14
 by_cases q15 : t13 = true
 ·
  rw [if_pos q15] at h
  obtain rfl : t13 = true := by simpa using q15
  obtain rfl := Option.some.inj h
  go_enter Try.func12, Try.ntmps12
  refine wp_seq ?_
  refine rg_text (N := 32) 0 Grows (by kernel_rfl) rfl Grows.refl Grows.trans ?_
  rw [show List.range 0 = [] from rfl]
  intro vs w1_ hr hE
  have hg : Grows w w1_ := hr
  clear hE hr
  rw [show List.range 0 = [] from rfl]
  simp only [putL, slotOf, List.getElem?_toArray, List.getElem?_cons_zero, List.getElem?_cons_succ, Option.bind_some, Act.put, List.setIfInBounds_toArray, List.set_cons_succ, List.set_cons_zero]
  have hT : Grows w1_ w1_ := Grows.refl _
  obtain ⟨w1_a, hw1_a⟩ : ∃ W, W = w1_.alloc (.cells #[.int .i64 a0_0, .int .i64 a0_1, .int .u64 a0_2, .string a0_3, .slice A0_4 l0_4.length c0_4] 27) := ⟨_, rfl⟩
  obtain ⟨b1_, hb1_⟩ : ∃ n, n = w1_.heap.size := ⟨_, rfl⟩
  refine tail_valD (i := 0) (r := [1, 2]) (w' := w1_a) 6 (.pointer (some ⟨b1_, 0, none⟩)) rfl rfl (wanted_none rfl) (by rw [hw1_a, hb1_]; go_simp) ?_
  simp only [Act.put, List.setIfInBounds_toArray, List.set_cons_succ, List.set_cons_zero]
  have HXb1 : w1_a.heap[b1_]? = some (.cells #[.int .i64 a0_0, .int .i64 a0_1, .int .u64 a0_2, .string a0_3, .slice A0_4 l0_4.length c0_4] 27 (0, 0)) := by rw [hw1_a, hb1_]; exact at_new _ _ rfl
  replace HXb1 := Aside0.mk HXb1
  have hlb1 : w1_.heap.size ≤ b1_ := by rw [hb1_]; exact hT.size
  replace hT : Grows w1_ w1_a := by rw [hw1_a]; exact hT.trans (Grows.alloc _ _)
  clear hw1_a hb1_
  obtain ⟨w1_aa, hw1_aa⟩ : ∃ W, W = w1_a.alloc (.cells #[.int .i64 a4_0, .int .i64 a4_1, .int .u64 a4_2, .string a4_3, .slice A4_4 l4_4.length c4_4] 27) := ⟨_, rfl⟩
  obtain ⟨b2_, hb2_⟩ : ∃ n, n = w1_a.heap.size := ⟨_, rfl⟩
  refine tail_valD (i := 1) (r := [2]) (w' := w1_aa) 10 (.pointer (some ⟨b2_, 0, none⟩)) rfl rfl (wanted_none rfl) (by rw [hw1_aa, hb2_]; go_simp) ?_
  simp only [Act.put, List.setIfInBounds_toArray, List.set_cons_succ, List.set_cons_zero]
  have HXb2 : w1_aa.heap[b2_]? = some (.cells #[.int .i64 a4_0, .int .i64 a4_1, .int .u64 a4_2, .string a4_3, .slice A4_4 l4_4.length c4_4] 27 (0, 0)) := by rw [hw1_aa, hb2_]; exact at_new _ _ rfl
  replace HXb2 := Aside0.mk HXb2
  have hX_ := at_alloc HXb1.out (.cells #[.int .i64 a4_0, .int .i64 a4_1, .int .u64 a4_2, .string a4_3, .slice A4_4 l4_4.length c4_4] 27)
  rw [← hw1_aa] at hX_
  replace HXb1 := Aside0.mk hX_
  clear hX_
  have hlb2 : w1_.heap.size ≤ b2_ := by rw [hb2_]; exact hT.size
  replace hT : Grows w1_ w1_aa := by rw [hw1_aa]; exact hT.trans (Grows.alloc _ _)
  clear hw1_aa hb2_
  refine tail_valD (i := 2) (r := []) (w' := w1_aa) 12 (.bool false) rfl rfl (wanted_none rfl) (by go_simp) ?_
  simp only [Act.put, List.setIfInBounds_toArray, List.set_cons_succ, List.set_cons_zero]
  replace hg : Grows w w1_aa := hg.trans hT
  clear hT
  refine tail_end ?_
  simp only [Exit.then]
  replace HC0_4 := Aside0.mk (Kd.C_below HC0_4.out hg)
  replace HC4_4 := Aside0.mk (Kd.C_below HC4_4.out hg)
  replace HB := Aside0.mk (HB.out.trans (Below.mono hg HB.out.size))
  clear hg
  refine wp_seq ?_
  refine rg_regionL (N := 32) 10 [8] Grows (by kernel_rfl) (by kernel_rfl) rfl Grows.refl Grows.trans rfl rfl rfl rfl (by kernel_rfl) ?_
  rw [show List.range 10 = [0, 1, 2, 3, 4, 5, 6, 7, 8, 9] from rfl]
  refine rgl_call (OneC k64 t3 (fun u => u)) OneC.grows rfl rfl Try.func6 (by kernel_rfl) rfl (fun _ _ _ _ => wanted_none rfl) ?_ ?_
  ·
   intro a w' hr hs
   rw [show (#[] : Array Operand).map a.eval = #[] by simp]
   refine (chaperonlaw16_some.calls t3 _ F4.out).mono ?_
   rintro e w3 ⟨v, rfl, hN, hb⟩
   obtain ⟨A9, c9, rfl, hc9, hC9⟩ := Kd.N_reads hN
   exact ⟨_, rfl, hb, A9, c9, rfl, hc9, hC9⟩
  refine rgl_val (.agg #[.int .i64 a0_0, .int .i64 a0_1, .int .u64 a0_2, .string a0_3, .slice A0_4 l0_4.length c0_4]) Grows.refl rfl (fun _ _ _ _ => wanted_none rfl) ?_ ?_
  ·
   intro a w' hr hs
   have h6 : a.tmps[6]?.getD undef = .pointer (some ⟨b1_, 0, none⟩) := hs.out 6 (by kernel_rfl)
   have x := hr.at (at_drew HXb1.out)
   have x0 := cell_at x 0
   have x1 := cell_at x 1
   have x2 := cell_at x 2
   have x3 := cell_at x 3
   have x4 := cell_at x 4
   simp only [List.getElem?_toArray, List.getElem?_cons_zero, List.getElem?_cons_succ] at x0 x1 x2 x3 x4
   go_simp
  refine rgl_val (.string a1) Grows.refl rfl (fun _ _ _ _ => wanted_none rfl) ?_ ?_
  ·
   intro a w' hr hs
   have h1 : a.tmps[1]?.getD undef = .string a1 := hs.out 1 (by kernel_rfl)
   go_simp
  refine rgl_val (.string a2) Grows.refl rfl (fun _ _ _ _ => wanted_none rfl) ?_ ?_
  ·
   intro a w' hr hs
   have h2 : a.tmps[2]?.getD undef = .string a2 := hs.out 2 (by kernel_rfl)
   go_simp
  refine rgl_val (.int .i64 a3) Grows.refl rfl (fun _ _ _ _ => wanted_none rfl) ?_ ?_
  ·
   intro a w' hr hs
   have h3 : a.tmps[3]?.getD undef = .int .i64 a3 := hs.out 3 (by kernel_rfl)
   go_simp
  refine rgl_call (OneR k35 35 t9 (fun u => .tuple #[.agg #[.int .i64 t5, .int .i64 t6, .int .u64 t7, .string t8, u], .int .i64 t10])) OneR.grows rfl rfl Try.func25 (by kernel_rfl) rfl (fun _ _ _ _ => wanted_none rfl) ?_ ?_
  ·
   intro a w' hr hs
   have g16 : OneC k64 t3 (fun u => u) (a.tmps[16]?.getD undef) w' := hs.get 4 rfl (by kernel_rfl) rfl
   obtain ⟨A16, c16, h16, hc16, hC16⟩ := g16.reads
   replace h16 : a.tmps[16]?.getD undef = .slice A16 t3.length c16 := h16
   have h17 : a.tmps[17]?.getD undef = .agg #[.int .i64 a0_0, .int .i64 a0_1, .int .u64 a0_2, .string a0_3, .slice A0_4 l0_4.length c0_4] := hs.get 3 rfl (by kernel_rfl) rfl
   have h18 : a.tmps[18]?.getD undef = .string a1 := hs.get 2 rfl (by kernel_rfl) rfl
   have h19 : a.tmps[19]?.getD undef = .string a2 := hs.get 1 rfl (by kernel_rfl) rfl
   have h20 : a.tmps[20]?.getD undef = .int .i64 a3 := hs.get 0 rfl (by kernel_rfl) rfl
   rw [show (#[Operand.tmp 16, Operand.tmp 17, Operand.tmp 18, Operand.tmp 19, Operand.tmp 20, Operand.const (.bool false)] : Array Operand).map a.eval = #[.slice A16 t3.length c16, .agg #[.int .i64 a0_0, .int .i64 a0_1, .int .u64 a0_2, .string a0_3, .slice A0_4 l0_4.length c0_4], .string a1, .string a2, .int .i64 a3, .bool false] by simp [Act.eval, h16, h17, h18, h19, h20]]
   refine (coerce_Cast.calls k A16 c16 t3 a0_0 a0_1 a0_2 a0_3 A0_4 c0_4 l0_4 a1 a2 a3 false t5 t6 t7 t8 t9 t10 _ hC16 hc16 (Kd.C_below (Kd.C_drew HC0_4.out) hr) hc0_4 F11.out).mono ?_
   rintro e w3 ⟨v, rfl, hR, hb⟩
   exact ⟨_, rfl, hb, OneR.of hR⟩
  refine rgl_keep (OneR k35 35 t9 (fun u => .tuple #[.agg #[.int .i64 t5, .int .i64 t6, .int .u64 t7, .string t8, u], .int .i64 t10])) OneR.grows Grows.refl rfl (fun _ _ _ _ => wanted_none rfl) ?_ ?_
  ·
   intro a w' hr hs
   have g21 : OneR k35 35 t9 (fun u => .tuple #[.agg #[.int .i64 t5, .int .i64 t6, .int .u64 t7, .string t8, u], .int .i64 t10]) (a.tmps[21]?.getD undef) w' := hs.get 0 rfl (by kernel_rfl) rfl
   obtain ⟨A21, c21, h21, hc21, hC21, hR21⟩ := g21.reads
   replace h21 : a.tmps[21]?.getD undef = .tuple #[.agg #[.int .i64 t5, .int .i64 t6, .int .u64 t7, .string t8, .slice A21 t9.length c21], .int .i64 t10] := h21
   exact ⟨.tuple #[.agg #[.int .i64 t5, .int .i64 t6, .int .u64 t7, .string t8, .slice A21 t9.length c21], .int .i64 t10], by go_simp, _, rfl, hR21⟩
  refine rgl_keep (OneR k35 35 t9 (fun u => .agg #[.int .i64 t5, .int .i64 t6, .int .u64 t7, .string t8, u])) OneR.grows Grows.refl rfl (fun _ _ _ _ => wanted_none rfl) ?_ ?_
  ·
   intro a w' hr hs
   have g15 : OneR k35 35 t9 (fun u => .tuple #[.agg #[.int .i64 t5, .int .i64 t6, .int .u64 t7, .string t8, u], .int .i64 t10]) (a.tmps[15]?.getD undef) w' := hs.get 0 rfl (by kernel_rfl) rfl
   obtain ⟨A15, c15, h15, hc15, hC15, hR15⟩ := g15.reads
   replace h15 : a.tmps[15]?.getD undef = .tuple #[.agg #[.int .i64 t5, .int .i64 t6, .int .u64 t7, .string t8, .slice A15 t9.length c15], .int .i64 t10] := h15
   exact ⟨.agg #[.int .i64 t5, .int .i64 t6, .int .u64 t7, .string t8, .slice A15 t9.length c15], by go_simp, _, rfl, hR15⟩
  refine rgl_late (.int .i64 t10) Grows.refl rfl (fun _ _ _ _ => wanted_none rfl) ?_ ?_
  ·
   intro a w' hr hs w3
   have g15 : OneR k35 35 t9 (fun u => .tuple #[.agg #[.int .i64 t5, .int .i64 t6, .int .u64 t7, .string t8, u], .int .i64 t10]) (a.tmps[15]?.getD undef) w' := hs.get 1 rfl (by kernel_rfl) rfl
   obtain ⟨A15, c15, h15, hc15, hC15, hR15⟩ := g15.reads
   replace h15 : a.tmps[15]?.getD undef = .tuple #[.agg #[.int .i64 t5, .int .i64 t6, .int .u64 t7, .string t8, .slice A15 t9.length c15], .int .i64 t10] := h15
   go_simp
  refine rgl_run (Boxed #[.int .i64 0, .int .i64 0, .int .u64 0, .string (⟨#[]⟩ : ByteArray), .slice none 0 0] 27 w1_aa.heap.size) Boxed.grows rfl (fun _ _ _ _ => wanted_none rfl) ?_ ?_
  ·
   intro a w' hr hs
   exact ⟨_, _, by go_simp, Grows.alloc _ _, Boxed.new hr.size⟩
  intro vs w2_ hr hE
  have g_ : OneR k35 35 t9 (fun u => .agg #[.int .i64 t5, .int .i64 t6, .int .u64 t7, .string t8, u]) (vs 7) w2_ := hE _ (mem_at 2 rfl)
  obtain ⟨Au16, cu16, e7, hcu16, hCu16, hRu16⟩ := g_.reads
  clear g_
  replace e7 : vs 7 = .agg #[.int .i64 t5, .int .i64 t6, .int .u64 t7, .string t8, .slice Au16 t9.length cu16] := e7
  have HCu16 := Aside0.mk hCu16
  clear hCu16
  have HRu16 := Aside0.mk hRu16
  clear hRu16
  have e8 : vs 8 = .int .i64 t10 := hE _ (mem_at 1 rfl)
  obtain ⟨b12_, e9, HXb12, hlb12⟩ := hE _ (mem_at 0 rfl)
  replace HXb12 := Aside0.mk HXb12
  have hg : Grows w1_aa w2_ := Below.trans (Below.refl w1_aa.heap.size w1_aa).drew hr
  clear hE hr
  rw [show List.range 10 = [0, 1, 2, 3, 4, 5, 6, 7, 8, 9] from rfl]
  simp only [putL, slotOf, List.getElem?_toArray, List.getElem?_cons_zero, List.getElem?_cons_succ, Option.bind_some, Act.put, List.setIfInBounds_toArray, List.set_cons_succ, List.set_cons_zero, e7, e8, e9]
  clear e7 e8 e9
  have z0 := cell_at HXb12.out 0
  have f0 := free_at HXb12.out 0
  have z1 := cell_at HXb12.out 1
  have f1 := free_at HXb12.out 1
  have z2 := cell_at HXb12.out 2
  have f2 := free_at HXb12.out 2
  have z3 := cell_at HXb12.out 3
  have f3 := free_at HXb12.out 3
  have z4 := cell_at HXb12.out 4
  have f4 := free_at HXb12.out 4
  simp only [List.getElem?_toArray, List.getElem?_cons_zero, List.getElem?_cons_succ] at z0 z1 z2 z3 z4
  obtain ⟨w2_s, hw2_s⟩ : ∃ W, W = (((((w2_.setCell ⟨b12_, 0, none⟩ (.int .i64 t5)).setCell ⟨b12_, 1, none⟩ (.int .i64 t6)).setCell ⟨b12_, 2, none⟩ (.int .u64 t7)).setCell ⟨b12_, 3, none⟩ (.string t8)).setCell ⟨b12_, 4, none⟩ (.slice Au16 t9.length cu16)) := ⟨_, rfl⟩
  refine ⟨_, w2_s, rfl, by rw [hw2_s]; go_simp, ?_⟩
  clear z0 z1 z2 z3 z4 f0 f1 f2 f3 f4
  have hR_ := (Kd.R_set (Kd.R_set (Kd.R_set (Kd.R_set (Kd.R_set HRu16.out HXb12.out (by decide) 0 (.int .i64 t5)) (blk_put HXb12.out 0 (.int .i64 t5) rfl) (by decide) 1 (.int .i64 t6)) (blk_put (blk_put HXb12.out 0 (.int .i64 t5) rfl) 1 (.int .i64 t6) rfl) (by decide) 2 (.int .u64 t7)) (blk_put (blk_put (blk_put HXb12.out 0 (.int .i64 t5) rfl) 1 (.int .i64 t6) rfl) 2 (.int .u64 t7) rfl) (by decide) 3 (.string t8)) (blk_put (blk_put (blk_put (blk_put HXb12.out 0 (.int .i64 t5) rfl) 1 (.int .i64 t6) rfl) 2 (.int .u64 t7) rfl) 3 (.string t8) rfl) (by decide) 4 (.slice Au16 t9.length cu16))
  rw [← hw2_s] at hR_
  have HCu16 := Aside0.mk (Kd.R_reads' hR_).2.2
  replace HRu16 := Aside0.mk hR_
  clear hR_
  have hX_ : w2_s.heap[b12_]? = some (.cells #[.int .i64 t5, .int .i64 t6, .int .u64 t7, .string t8, .slice Au16 t9.length cu16] 27 (0, 0)) := by rw [hw2_s]; exact (blk_put (blk_put (blk_put (blk_put (blk_put HXb12.out 0 (.int .i64 t5) rfl) 1 (.int .i64 t6) rfl) 2 (.int .u64 t7) rfl) 3 (.string t8) rfl) 4 (.slice Au16 t9.length cu16) rfl)
  replace HXb12 := Aside0.mk hX_
  clear hX_
  replace hg : Grows w1_aa w2_s := by rw [hw2_s]; exact (setB (setB (setB (setB (setB hg hlb12 (.int .i64 t5)) hlb12 (.int .i64 t6)) hlb12 (.int .u64 t7)) hlb12 (.string t8)) hlb12 (.slice Au16 t9.length cu16))
  clear hw2_s
  refine tail_valD (i := 11) (r := []) (w' := w2_s) 14 (.int .i64 t10) rfl rfl (wanted_none rfl) (by go_simp) ?_
  simp only [Act.put, List.setIfInBounds_toArray, List.set_cons_succ, List.set_cons_zero]
  refine tail_end ?_
  simp only [Exit.then]
  replace HC0_4 := Aside0.mk (Kd.C_below HC0_4.out hg)
  replace HC4_4 := Aside0.mk (Kd.C_below HC4_4.out hg)
  replace HXb1 := Aside0.mk (hg.at HXb1.out)
  replace HXb2 := Aside0.mk (hg.at HXb2.out)
  replace HB := Aside0.mk (HB.out.trans (Below.mono hg HB.out.size))
  clear hg
  refine wp_seq ?_
  refine rg_text (N := 32) 9 Grows (by kernel_rfl) rfl Grows.refl Grows.trans ?_
  rw [show List.range 9 = [0, 1, 2, 3, 4, 5, 6, 7, 8] from rfl]
  refine rg_val (.agg #[.int .i64 t5, .int .i64 t6, .int .u64 t7, .string t8, .slice Au16 t9.length cu16]) Grows.refl rfl (fun _ _ _ _ => wanted_none rfl) ?_ ?_
  ·
   intro a w' hr hs
   have h13 : a.tmps[13]?.getD undef = .pointer (some ⟨b12_, 0, none⟩) := hs.out 13 (by kernel_rfl)
   have x := hr.at HXb12.out
   have x0 := cell_at x 0
   have x1 := cell_at x 1
   have x2 := cell_at x 2
   have x3 := cell_at x 3
   have x4 := cell_at x 4
   simp only [List.getElem?_toArray, List.getElem?_cons_zero, List.getElem?_cons_succ] at x0 x1 x2 x3 x4
   go_simp
  refine rg_val (.agg #[.int .i64 a4_0, .int .i64 a4_1, .int .u64 a4_2, .string a4_3, .slice A4_4 l4_4.length c4_4]) Grows.refl rfl (fun _ _ _ _ => wanted_none rfl) ?_ ?_
  ·
   intro a w' hr hs
   have h10 : a.tmps[10]?.getD undef = .pointer (some ⟨b2_, 0, none⟩) := hs.out 10 (by kernel_rfl)
   have x := hr.at HXb2.out
   have x0 := cell_at x 0
   have x1 := cell_at x 1
   have x2 := cell_at x 2
   have x3 := cell_at x 3
   have x4 := cell_at x 4
   simp only [List.getElem?_toArray, List.getElem?_cons_zero, List.getElem?_cons_succ] at x0 x1 x2 x3 x4
   go_simp
  refine rg_call (fun v _ => v = .bool true) (fun _ _ _ _ h => h) rfl rfl Try.func14 (by kernel_rfl) rfl (fun _ _ _ _ => wanted_none rfl) ?_ ?_
  ·
   intro a w' hr hs
   have h24 : a.tmps[24]?.getD undef = .agg #[.int .i64 t5, .int .i64 t6, .int .u64 t7, .string t8, .slice Au16 t9.length cu16] := hs.get 1 rfl (by kernel_rfl) rfl
   have h25 : a.tmps[25]?.getD undef = .agg #[.int .i64 a4_0, .int .i64 a4_1, .int .u64 a4_2, .string a4_3, .slice A4_4 l4_4.length c4_4] := hs.get 0 rfl (by kernel_rfl) rfl
   rw [show (#[Operand.tmp 24, Operand.tmp 25] : Array Operand).map a.eval = #[.agg #[.int .i64 t5, .int .i64 t6, .int .u64 t7, .string t8, .slice Au16 t9.length cu16], .agg #[.int .i64 a4_0, .int .i64 a4_1, .int .u64 a4_2, .string a4_3, .slice A4_4 l4_4.length c4_4]] by simp [Act.eval, h24, h25]]
   refine (chaperonkit_SameValue.calls k t5 t6 t7 t8 Au16 cu16 t9 a4_0 a4_1 a4_2 a4_3 A4_4 c4_4 l4_4 true _ (Kd.C_below HCu16.out hr) hcu16 (Kd.C_below HC4_4.out hr) hc4_4 F14.out).mono ?_
   rintro e w3 ⟨rfl, hb⟩
   exact ⟨_, rfl, hb, rfl⟩
  refine rg_val (.bool true) Grows.refl rfl (fun _ _ _ _ => wanted_none rfl) ?_ ?_
  ·
   intro a w' hr hs
   have h26 : a.tmps[26]?.getD undef = .bool true := hs.get 0 rfl (by kernel_rfl) rfl
   go_simp
  refine rg_val (.int .i64 t10) Grows.refl rfl (fun a w hr hs => on_guard (g := 3) (t := 27) rfl rfl (hs.get 0 rfl (by kernel_rfl) rfl)) ?_ ?_
  ·
   intro a w' hr hs
   have h14 : a.tmps[14]?.getD undef = .int .i64 t10 := hs.out 14 (by kernel_rfl)
   go_simp
  refine rg_val (.int .i64 a5) Grows.refl rfl (fun a w hr hs => on_guard (g := 3) (t := 27) rfl rfl (hs.get 1 rfl (by kernel_rfl) rfl)) ?_ ?_
  ·
   intro a w' hr hs
   have h5 : a.tmps[5]?.getD undef = .int .i64 a5 := hs.out 5 (by kernel_rfl)
   go_simp
  refine rg_val (.bool (t10 == a5)) Grows.refl rfl (fun a w hr hs => on_guard (g := 3) (t := 27) rfl rfl (hs.get 2 rfl (by kernel_rfl) rfl)) ?_ ?_
  ·
   intro a w' hr hs
   have h28 : a.tmps[28]?.getD undef = .int .i64 t10 := hs.get 1 rfl (by kernel_rfl) rfl
   have h29 : a.tmps[29]?.getD undef = .int .i64 a5 := hs.get 0 rfl (by kernel_rfl) rfl
   go_simp
  refine rg_val (.bool (t10 == a5)) Grows.refl rfl (fun _ _ _ _ => wanted_none rfl) ?_ ?_
  ·
   intro a w' hr hs
   have h27 : a.tmps[27]?.getD undef = .bool true := hs.get 3 rfl (by kernel_rfl) rfl
   have h30 : a.tmps[30]?.getD undef = .bool (t10 == a5) := hs.get 0 rfl (by kernel_rfl) rfl
   go_simp
  refine rg_val (.bool (t10 == a5)) Grows.refl rfl (fun _ _ _ _ => wanted_none rfl) ?_ ?_
  ·
   intro a w' hr hs
   have h31 : a.tmps[31]?.getD undef = .bool (t10 == a5) := hs.get 0 rfl (by kernel_rfl) rfl
   go_simp
  intro vs w3_ hr hE
  have e8 : vs 8 = .bool (t10 == a5) := hE _ (mem_at 0 rfl)
  have hg : Grows w2_s w3_ := hr
  clear hE hr
  rw [show List.range 9 = [0, 1, 2, 3, 4, 5, 6, 7, 8] from rfl]
  simp only [putL, slotOf, List.getElem?_toArray, List.getElem?_cons_zero, List.getElem?_cons_succ, Option.bind_some, Act.put, List.setIfInBounds_toArray, List.set_cons_succ, List.set_cons_zero, e8]
  clear e8
  have hT : Grows w3_ w3_ := Grows.refl _
  replace hg : Grows w2_s w3_ := hg.trans hT
  clear hT
  refine tail_end ?_
  simp only [Exit.then]
  replace HC0_4 := Aside0.mk (Kd.C_below HC0_4.out hg)
  replace HC4_4 := Aside0.mk (Kd.C_below HC4_4.out hg)
  replace HCu16 := Aside0.mk (Kd.C_below HCu16.out hg)
  replace HXb1 := Aside0.mk (hg.at HXb1.out)
  replace HXb2 := Aside0.mk (hg.at HXb2.out)
  replace HXb12 := Aside0.mk (hg.at HXb12.out)
  replace HB := Aside0.mk (HB.out.trans (Below.mono hg HB.out.size))
  clear hg
  go_wp2_with fail
  go_ret
  exact ⟨rfl, HB.out⟩
 ·
  rw [if_neg q15] at h
  obtain rfl : t13 = false := by simpa using q15
  obtain rfl := Option.some.inj h
  go_enter Try.func12, Try.ntmps12
  refine wp_seq ?_
  refine rg_text (N := 32) 0 Grows (by kernel_rfl) rfl Grows.refl Grows.trans ?_
  rw [show List.range 0 = [] from rfl]
  intro vs w1_ hr hE
  have hg : Grows w w1_ := hr
  clear hE hr
  rw [show List.range 0 = [] from rfl]
  simp only [putL, slotOf, List.getElem?_toArray, List.getElem?_cons_zero, List.getElem?_cons_succ, Option.bind_some, Act.put, List.setIfInBounds_toArray, List.set_cons_succ, List.set_cons_zero]
  have hT : Grows w1_ w1_ := Grows.refl _
  obtain ⟨w1_a, hw1_a⟩ : ∃ W, W = w1_.alloc (.cells #[.int .i64 a0_0, .int .i64 a0_1, .int .u64 a0_2, .string a0_3, .slice A0_4 l0_4.length c0_4] 27) := ⟨_, rfl⟩
  obtain ⟨b1_, hb1_⟩ : ∃ n, n = w1_.heap.size := ⟨_, rfl⟩
  refine tail_valD (i := 0) (r := [1, 2]) (w' := w1_a) 6 (.pointer (some ⟨b1_, 0, none⟩)) rfl rfl (wanted_none rfl) (by rw [hw1_a, hb1_]; go_simp) ?_
  simp only [Act.put, List.setIfInBounds_toArray, List.set_cons_succ, List.set_cons_zero]
  have HXb1 : w1_a.heap[b1_]? = some (.cells #[.int .i64 a0_0, .int .i64 a0_1, .int .u64 a0_2, .string a0_3, .slice A0_4 l0_4.length c0_4] 27 (0, 0)) := by rw [hw1_a, hb1_]; exact at_new _ _ rfl
  replace HXb1 := Aside0.mk HXb1
  have hlb1 : w1_.heap.size ≤ b1_ := by rw [hb1_]; exact hT.size
  replace hT : Grows w1_ w1_a := by rw [hw1_a]; exact hT.trans (Grows.alloc _ _)
  clear hw1_a hb1_
  obtain ⟨w1_aa, hw1_aa⟩ : ∃ W, W = w1_a.alloc (.cells #[.int .i64 a4_0, .int .i64 a4_1, .int .u64 a4_2, .string a4_3, .slice A4_4 l4_4.length c4_4] 27) := ⟨_, rfl⟩
  obtain ⟨b2_, hb2_⟩ : ∃ n, n = w1_a.heap.size := ⟨_, rfl⟩
  refine tail_valD (i := 1) (r := [2]) (w' := w1_aa) 10 (.pointer (some ⟨b2_, 0, none⟩)) rfl rfl (wanted_none rfl) (by rw [hw1_aa, hb2_]; go_simp) ?_
  simp only [Act.put, List.setIfInBounds_toArray, List.set_cons_succ, List.set_cons_zero]
  have HXb2 : w1_aa.heap[b2_]? = some (.cells #[.int .i64 a4_0, .int .i64 a4_1, .int .u64 a4_2, .string a4_3, .slice A4_4 l4_4.length c4_4] 27 (0, 0)) := by rw [hw1_aa, hb2_]; exact at_new _ _ rfl
  replace HXb2 := Aside0.mk HXb2
  have hX_ := at_alloc HXb1.out (.cells #[.int .i64 a4_0, .int .i64 a4_1, .int .u64 a4_2, .string a4_3, .slice A4_4 l4_4.length c4_4] 27)
  rw [← hw1_aa] at hX_
  replace HXb1 := Aside0.mk hX_
  clear hX_
  have hlb2 : w1_.heap.size ≤ b2_ := by rw [hb2_]; exact hT.size
  replace hT : Grows w1_ w1_aa := by rw [hw1_aa]; exact hT.trans (Grows.alloc _ _)
  clear hw1_aa hb2_
  refine tail_valD (i := 2) (r := []) (w' := w1_aa) 12 (.bool false) rfl rfl (wanted_none rfl) (by go_simp) ?_
  simp only [Act.put, List.setIfInBounds_toArray, List.set_cons_succ, List.set_cons_zero]
  replace hg : Grows w w1_aa := hg.trans hT
  clear hT
  refine tail_end ?_
  simp only [Exit.then]
  replace HC0_4 := Aside0.mk (Kd.C_below HC0_4.out hg)
  replace HC4_4 := Aside0.mk (Kd.C_below HC4_4.out hg)
  replace HB := Aside0.mk (HB.out.trans (Below.mono hg HB.out.size))
  clear hg
  refine wp_seq ?_
  refine rg_regionL (N := 32) 10 [8] Grows (by kernel_rfl) (by kernel_rfl) rfl Grows.refl Grows.trans rfl rfl rfl rfl (by kernel_rfl) ?_
  rw [show List.range 10 = [0, 1, 2, 3, 4, 5, 6, 7, 8, 9] from rfl]
  refine rgl_call (OneC k64 t3 (fun u => u)) OneC.grows rfl rfl Try.func6 (by kernel_rfl) rfl (fun _ _ _ _ => wanted_none rfl) ?_ ?_
  ·
   intro a w' hr hs
   rw [show (#[] : Array Operand).map a.eval = #[] by simp]
   refine (chaperonlaw16_some.calls t3 _ F4.out).mono ?_
   rintro e w3 ⟨v, rfl, hN, hb⟩
   obtain ⟨A9, c9, rfl, hc9, hC9⟩ := Kd.N_reads hN
   exact ⟨_, rfl, hb, A9, c9, rfl, hc9, hC9⟩
  refine rgl_val (.agg #[.int .i64 a0_0, .int .i64 a0_1, .int .u64 a0_2, .string a0_3, .slice A0_4 l0_4.length c0_4]) Grows.refl rfl (fun _ _ _ _ => wanted_none rfl) ?_ ?_
  ·
   intro a w' hr hs
   have h6 : a.tmps[6]?.getD undef = .pointer (some ⟨b1_, 0, none⟩) := hs.out 6 (by kernel_rfl)
   have x := hr.at (at_drew HXb1.out)
   have x0 := cell_at x 0
   have x1 := cell_at x 1
   have x2 := cell_at x 2
   have x3 := cell_at x 3
   have x4 := cell_at x 4
   simp only [List.getElem?_toArray, List.getElem?_cons_zero, List.getElem?_cons_succ] at x0 x1 x2 x3 x4
   go_simp
  refine rgl_val (.string a1) Grows.refl rfl (fun _ _ _ _ => wanted_none rfl) ?_ ?_
  ·
   intro a w' hr hs
   have h1 : a.tmps[1]?.getD undef = .string a1 := hs.out 1 (by kernel_rfl)
   go_simp
  refine rgl_val (.string a2) Grows.refl rfl (fun _ _ _ _ => wanted_none rfl) ?_ ?_
  ·
   intro a w' hr hs
   have h2 : a.tmps[2]?.getD undef = .string a2 := hs.out 2 (by kernel_rfl)
   go_simp
  refine rgl_val (.int .i64 a3) Grows.refl rfl (fun _ _ _ _ => wanted_none rfl) ?_ ?_
  ·
   intro a w' hr hs
   have h3 : a.tmps[3]?.getD undef = .int .i64 a3 := hs.out 3 (by kernel_rfl)
   go_simp
  refine rgl_call (OneR k35 35 t9 (fun u => .tuple #[.agg #[.int .i64 t5, .int .i64 t6, .int .u64 t7, .string t8, u], .int .i64 t10])) OneR.grows rfl rfl Try.func25 (by kernel_rfl) rfl (fun _ _ _ _ => wanted_none rfl) ?_ ?_
  ·
   intro a w' hr hs
   have g16 : OneC k64 t3 (fun u => u) (a.tmps[16]?.getD undef) w' := hs.get 4 rfl (by kernel_rfl) rfl
   obtain ⟨A16, c16, h16, hc16, hC16⟩ := g16.reads
   replace h16 : a.tmps[16]?.getD undef = .slice A16 t3.length c16 := h16
   have h17 : a.tmps[17]?.getD undef = .agg #[.int .i64 a0_0, .int .i64 a0_1, .int .u64 a0_2, .string a0_3, .slice A0_4 l0_4.length c0_4] := hs.get 3 rfl (by kernel_rfl) rfl
   have h18 : a.tmps[18]?.getD undef = .string a1 := hs.get 2 rfl (by kernel_rfl) rfl
   have h19 : a.tmps[19]?.getD undef = .string a2 := hs.get 1 rfl (by kernel_rfl) rfl
   have h20 : a.tmps[20]?.getD undef = .int .i64 a3 := hs.get 0 rfl (by kernel_rfl) rfl
   rw [show (#[Operand.tmp 16, Operand.tmp 17, Operand.tmp 18, Operand.tmp 19, Operand.tmp 20, Operand.const (.bool false)] : Array Operand).map a.eval = #[.slice A16 t3.length c16, .agg #[.int .i64 a0_0, .int .i64 a0_1, .int .u64 a0_2, .string a0_3, .slice A0_4 l0_4.length c0_4], .string a1, .string a2, .int .i64 a3, .bool false] by simp [Act.eval, h16, h17, h18, h19, h20]]
   refine (coerce_Cast.calls k A16 c16 t3 a0_0 a0_1 a0_2 a0_3 A0_4 c0_4 l0_4 a1 a2 a3 false t5 t6 t7 t8 t9 t10 _ hC16 hc16 (Kd.C_below (Kd.C_drew HC0_4.out) hr) hc0_4 F11.out).mono ?_
   rintro e w3 ⟨v, rfl, hR, hb⟩
   exact ⟨_, rfl, hb, OneR.of hR⟩
  refine rgl_keep (OneR k35 35 t9 (fun u => .tuple #[.agg #[.int .i64 t5, .int .i64 t6, .int .u64 t7, .string t8, u], .int .i64 t10])) OneR.grows Grows.refl rfl (fun _ _ _ _ => wanted_none rfl) ?_ ?_
  ·
   intro a w' hr hs
   have g21 : OneR k35 35 t9 (fun u => .tuple #[.agg #[.int .i64 t5, .int .i64 t6, .int .u64 t7, .string t8, u], .int .i64 t10]) (a.tmps[21]?.getD undef) w' := hs.get 0 rfl (by kernel_rfl) rfl
   obtain ⟨A21, c21, h21, hc21, hC21, hR21⟩ := g21.reads
   replace h21 : a.tmps[21]?.getD undef = .tuple #[.agg #[.int .i64 t5, .int .i64 t6, .int .u64 t7, .string t8, .slice A21 t9.length c21], .int .i64 t10] := h21
   exact ⟨.tuple #[.agg #[.int .i64 t5, .int .i64 t6, .int .u64 t7, .string t8, .slice A21 t9.length c21], .int .i64 t10], by go_simp, _, rfl, hR21⟩
  refine rgl_keep (OneR k35 35 t9 (fun u => .agg #[.int .i64 t5, .int .i64 t6, .int .u64 t7, .string t8, u])) OneR.grows Grows.refl rfl (fun _ _ _ _ => wanted_none rfl) ?_ ?_
  ·
   intro a w' hr hs
   have g15 : OneR k35 35 t9 (fun u => .tuple #[.agg #[.int .i64 t5, .int .i64 t6, .int .u64 t7, .string t8, u], .int .i64 t10]) (a.tmps[15]?.getD undef) w' := hs.get 0 rfl (by kernel_rfl) rfl
   obtain ⟨A15, c15, h15, hc15, hC15, hR15⟩ := g15.reads
   replace h15 : a.tmps[15]?.getD undef = .tuple #[.agg #[.int .i64 t5, .int .i64 t6, .int .u64 t7, .string t8, .slice A15 t9.length c15], .int .i64 t10] := h15
   exact ⟨.agg #[.int .i64 t5, .int .i64 t6, .int .u64 t7, .string t8, .slice A15 t9.length c15], by go_simp, _, rfl, hR15⟩
  refine rgl_late (.int .i64 t10) Grows.refl rfl (fun _ _ _ _ => wanted_none rfl) ?_ ?_
  ·
   intro a w' hr hs w3
   have g15 : OneR k35 35 t9 (fun u => .tuple #[.agg #[.int .i64 t5, .int .i64 t6, .int .u64 t7, .string t8, u], .int .i64 t10]) (a.tmps[15]?.getD undef) w' := hs.get 1 rfl (by kernel_rfl) rfl
   obtain ⟨A15, c15, h15, hc15, hC15, hR15⟩ := g15.reads
   replace h15 : a.tmps[15]?.getD undef = .tuple #[.agg #[.int .i64 t5, .int .i64 t6, .int .u64 t7, .string t8, .slice A15 t9.length c15], .int .i64 t10] := h15
   go_simp
  refine rgl_run (Boxed #[.int .i64 0, .int .i64 0, .int .u64 0, .string (⟨#[]⟩ : ByteArray), .slice none 0 0] 27 w1_aa.heap.size) Boxed.grows rfl (fun _ _ _ _ => wanted_none rfl) ?_ ?_
  ·
   intro a w' hr hs
   exact ⟨_, _, by go_simp, Grows.alloc _ _, Boxed.new hr.size⟩
  intro vs w2_ hr hE
  have g_ : OneR k35 35 t9 (fun u => .agg #[.int .i64 t5, .int .i64 t6, .int .u64 t7, .string t8, u]) (vs 7) w2_ := hE _ (mem_at 2 rfl)
  obtain ⟨Au17, cu17, e7, hcu17, hCu17, hRu17⟩ := g_.reads
  clear g_
  replace e7 : vs 7 = .agg #[.int .i64 t5, .int .i64 t6, .int .u64 t7, .string t8, .slice Au17 t9.length cu17] := e7
  have HCu17 := Aside0.mk hCu17
  clear hCu17
  have HRu17 := Aside0.mk hRu17
  clear hRu17
  have e8 : vs 8 = .int .i64 t10 := hE _ (mem_at 1 rfl)
  obtain ⟨b12_, e9, HXb12, hlb12⟩ := hE _ (mem_at 0 rfl)
  replace HXb12 := Aside0.mk HXb12
  have hg : Grows w1_aa w2_ := Below.trans (Below.refl w1_aa.heap.size w1_aa).drew hr
  clear hE hr
  rw [show List.range 10 = [0, 1, 2, 3, 4, 5, 6, 7, 8, 9] from rfl]
  simp only [putL, slotOf, List.getElem?_toArray, List.getElem?_cons_zero, List.getElem?_cons_succ, Option.bind_some, Act.put, List.setIfInBounds_toArray, List.set_cons_succ, List.set_cons_zero, e7, e8, e9]
  clear e7 e8 e9
  have z0 := cell_at HXb12.out 0
  have f0 := free_at HXb12.out 0
  have z1 := cell_at HXb12.out 1
  have f1 := free_at HXb12.out 1
  have z2 := cell_at HXb12.out 2
  have f2 := free_at HXb12.out 2
  have z3 := cell_at HXb12.out 3
  have f3 := free_at HXb12.out 3
  have z4 := cell_at HXb12.out 4
  have f4 := free_at HXb12.out 4
  simp only [List.getElem?_toArray, List.getElem?_cons_zero, List.getElem?_cons_succ] at z0 z1 z2 z3 z4
  obtain ⟨w2_s, hw2_s⟩ : ∃ W, W = (((((w2_.setCell ⟨b12_, 0, none⟩ (.int .i64 t5)).setCell ⟨b12_, 1, none⟩ (.int .i64 t6)).setCell ⟨b12_, 2, none⟩ (.int .u64 t7)).setCell ⟨b12_, 3, none⟩ (.string t8)).setCell ⟨b12_, 4, none⟩ (.slice Au17 t9.length cu17)) := ⟨_, rfl⟩
  refine ⟨_, w2_s, rfl, by rw [hw2_s]; go_simp, ?_⟩
  clear z0 z1 z2 z3 z4 f0 f1 f2 f3 f4
  have hR_ := (Kd.R_set (Kd.R_set (Kd.R_set (Kd.R_set (Kd.R_set HRu17.out HXb12.out (by decide) 0 (.int .i64 t5)) (blk_put HXb12.out 0 (.int .i64 t5) rfl) (by decide) 1 (.int .i64 t6)) (blk_put (blk_put HXb12.out 0 (.int .i64 t5) rfl) 1 (.int .i64 t6) rfl) (by decide) 2 (.int .u64 t7)) (blk_put (blk_put (blk_put HXb12.out 0 (.int .i64 t5) rfl) 1 (.int .i64 t6) rfl) 2 (.int .u64 t7) rfl) (by decide) 3 (.string t8)) (blk_put (blk_put (blk_put (blk_put HXb12.out 0 (.int .i64 t5) rfl) 1 (.int .i64 t6) rfl) 2 (.int .u64 t7) rfl) 3 (.string t8) rfl) (by decide) 4 (.slice Au17 t9.length cu17))
  rw [← hw2_s] at hR_
  have HCu17 := Aside0.mk (Kd.R_reads' hR_).2.2
  replace HRu17 := Aside0.mk hR_
  clear hR_
  have hX_ : w2_s.heap[b12_]? = some (.cells #[.int .i64 t5, .int .i64 t6, .int .u64 t7, .string t8, .slice Au17 t9.length cu17] 27 (0, 0)) := by rw [hw2_s]; exact (blk_put (blk_put (blk_put (blk_put (blk_put HXb12.out 0 (.int .i64 t5) rfl) 1 (.int .i64 t6) rfl) 2 (.int .u64 t7) rfl) 3 (.string t8) rfl) 4 (.slice Au17 t9.length cu17) rfl)
  replace HXb12 := Aside0.mk hX_
  clear hX_
  replace hg : Grows w1_aa w2_s := by rw [hw2_s]; exact (setB (setB (setB (setB (setB hg hlb12 (.int .i64 t5)) hlb12 (.int .i64 t6)) hlb12 (.int .u64 t7)) hlb12 (.string t8)) hlb12 (.slice Au17 t9.length cu17))
  clear hw2_s
  refine tail_valD (i := 11) (r := []) (w' := w2_s) 14 (.int .i64 t10) rfl rfl (wanted_none rfl) (by go_simp) ?_
  simp only [Act.put, List.setIfInBounds_toArray, List.set_cons_succ, List.set_cons_zero]
  refine tail_end ?_
  simp only [Exit.then]
  replace HC0_4 := Aside0.mk (Kd.C_below HC0_4.out hg)
  replace HC4_4 := Aside0.mk (Kd.C_below HC4_4.out hg)
  replace HXb1 := Aside0.mk (hg.at HXb1.out)
  replace HXb2 := Aside0.mk (hg.at HXb2.out)
  replace HB := Aside0.mk (HB.out.trans (Below.mono hg HB.out.size))
  clear hg
  refine wp_seq ?_
  refine rg_text (N := 32) 9 Grows (by kernel_rfl) rfl Grows.refl Grows.trans ?_
  rw [show List.range 9 = [0, 1, 2, 3, 4, 5, 6, 7, 8] from rfl]
  refine rg_val (.agg #[.int .i64 t5, .int .i64 t6, .int .u64 t7, .string t8, .slice Au17 t9.length cu17]) Grows.refl rfl (fun _ _ _ _ => wanted_none rfl) ?_ ?_
  ·
   intro a w' hr hs
   have h13 : a.tmps[13]?.getD undef = .pointer (some ⟨b12_, 0, none⟩) := hs.out 13 (by kernel_rfl)
   have x := hr.at HXb12.out
   have x0 := cell_at x 0
   have x1 := cell_at x 1
   have x2 := cell_at x 2
   have x3 := cell_at x 3
   have x4 := cell_at x 4
   simp only [List.getElem?_toArray, List.getElem?_cons_zero, List.getElem?_cons_succ] at x0 x1 x2 x3 x4
   go_simp
  refine rg_val (.agg #[.int .i64 a4_0, .int .i64 a4_1, .int .u64 a4_2, .string a4_3, .slice A4_4 l4_4.length c4_4]) Grows.refl rfl (fun _ _ _ _ => wanted_none rfl) ?_ ?_
  ·
   intro a w' hr hs
   have h10 : a.tmps[10]?.getD undef = .pointer (some ⟨b2_, 0, none⟩) := hs.out 10 (by kernel_rfl)
   have x := hr.at HXb2.out
   have x0 := cell_at x 0
   have x1 := cell_at x 1
   have x2 := cell_at x 2
   have x3 := cell_at x 3
   have x4 := cell_at x 4
   simp only [List.getElem?_toArray, List.getElem?_cons_zero, List.getElem?_cons_succ] at x0 x1 x2 x3 x4
   go_simp
  refine rg_call (fun v _ => v = .bool false) (fun _ _ _ _ h => h) rfl rfl Try.func14 (by kernel_rfl) rfl (fun _ _ _ _ => wanted_none rfl) ?_ ?_
  ·
   intro a w' hr hs
   have h24 : a.tmps[24]?.getD undef = .agg #[.int .i64 t5, .int .i64 t6, .int .u64 t7, .string t8, .slice Au17 t9.length cu17] := hs.get 1 rfl (by kernel_rfl) rfl
   have h25 : a.tmps[25]?.getD undef = .agg #[.int .i64 a4_0, .int .i64 a4_1, .int .u64 a4_2, .string a4_3, .slice A4_4 l4_4.length c4_4] := hs.get 0 rfl (by kernel_rfl) rfl
   rw [show (#[Operand.tmp 24, Operand.tmp 25] : Array Operand).map a.eval = #[.agg #[.int .i64 t5, .int .i64 t6, .int .u64 t7, .string t8, .slice Au17 t9.length cu17], .agg #[.int .i64 a4_0, .int .i64 a4_1, .int .u64 a4_2, .string a4_3, .slice A4_4 l4_4.length c4_4]] by simp [Act.eval, h24, h25]]
   refine (chaperonkit_SameValue.calls k t5 t6 t7 t8 Au17 cu17 t9 a4_0 a4_1 a4_2 a4_3 A4_4 c4_4 l4_4 false _ (Kd.C_below HCu17.out hr) hcu17 (Kd.C_below HC4_4.out hr) hc4_4 F14.out).mono ?_
   rintro e w3 ⟨rfl, hb⟩
   exact ⟨_, rfl, hb, rfl⟩
  refine rg_val (.bool false) Grows.refl rfl (fun _ _ _ _ => wanted_none rfl) ?_ ?_
  ·
   intro a w' hr hs
   have h26 : a.tmps[26]?.getD undef = .bool false := hs.get 0 rfl (by kernel_rfl) rfl
   go_simp
  refine rg_off rfl (fun a w hr hs => (of_guard (g := 3) (t := 27) (b' := false) rfl rfl (hs.get 0 rfl (by kernel_rfl) rfl)).trans rfl) ?_
  refine rg_off rfl (fun a w hr hs => (of_guard (g := 3) (t := 27) (b' := false) rfl rfl (hs.get 1 rfl (by kernel_rfl) rfl)).trans rfl) ?_
  refine rg_off rfl (fun a w hr hs => (of_guard (g := 3) (t := 27) (b' := false) rfl rfl (hs.get 2 rfl (by kernel_rfl) rfl)).trans rfl) ?_
  refine rg_val (.bool false) Grows.refl rfl (fun _ _ _ _ => wanted_none rfl) ?_ ?_
  ·
   intro a w' hr hs
   have h27 : a.tmps[27]?.getD undef = .bool false := hs.get 3 rfl (by kernel_rfl) rfl
   go_simp
  refine rg_val (.bool false) Grows.refl rfl (fun _ _ _ _ => wanted_none rfl) ?_ ?_
  ·
   intro a w' hr hs
   have h31 : a.tmps[31]?.getD undef = .bool false := hs.get 0 rfl (by kernel_rfl) rfl
   go_simp
  intro vs w3_ hr hE
  have e8 : vs 8 = .bool false := hE _ (mem_at 0 rfl)
  have hg : Grows w2_s w3_ := hr
  clear hE hr
  rw [show List.range 9 = [0, 1, 2, 3, 4, 5, 6, 7, 8] from rfl]
  simp only [putL, slotOf, List.getElem?_toArray, List.getElem?_cons_zero, List.getElem?_cons_succ, Option.bind_some, Act.put, List.setIfInBounds_toArray, List.set_cons_succ, List.set_cons_zero, e8]
  clear e8
  have hT : Grows w3_ w3_ := Grows.refl _
  replace hg : Grows w2_s w3_ := hg.trans hT
  clear hT
  refine tail_end ?_
  simp only [Exit.then]
  replace HC0_4 := Aside0.mk (Kd.C_below HC0_4.out hg)
  replace HC4_4 := Aside0.mk (Kd.C_below HC4_4.out hg)
  replace HCu17 := Aside0.mk (Kd.C_below HCu17.out hg)
  replace HXb1 := Aside0.mk (hg.at HXb1.out)
  replace HXb2 := Aside0.mk (hg.at HXb2.out)
  replace HXb12 := Aside0.mk (hg.at HXb12.out)
  replace HB := Aside0.mk (HB.out.trans (Below.mono hg HB.out.size))
  clear hg
  go_wp2_with fail
  go_ret
  exact ⟨rfl, HB.out⟩
end Go.Proofs.Ytinkbljjpafadaa.PAll
end

section
namespace Go.Proofs.Ytinkbljjpafadaa.PAll
open Go.RowKit Go.Proofs.YtinkbljjpafadaaW.PrintWords Go.Proofs.YtinkbljjpafadaaW.PrintLast Go.Proofs.YtinkbljjpafadaaW.PrintMore
attribute [local go_sem] max2_int min2_int max_two min_two max_three min_three max_four min_four   -- for this text's walks alone
set_option linter.unusedVariables false
set_option linter.unusedSimpArgs false
def chaperonlaw16_enters.f (k : Nat) (a0_0 : Int) (a0_1 : Int) (a0_2 : Int) (a0_3 : ByteArray) (l0_4 : List (S35)) (a1 : ByteArray) (a2 : Int) (a3_0 : Int) (a3_1 : Int) (a3_2 : Int) (a3_3 : ByteArray) (l3_4 : List (S35)) (a4 : Int) : Option Bool := (chaperonlaw16_some.f).bind fun bF4 => (coerce_Enter.f k bF4 a0_0 a0_1 a0_2 a0_3 l0_4 a1 a2 false).bind fun bF11 => (chaperonkit_SameValue.f k bF11.1 bF11.2.1 bF11.2.2.1 bF11.2.2.2.1 bF11.2.2.2.2.1 a3_0 a3_1 a3_2 a3_3 l3_4).bind fun bF14 => (if bF14 = true then some ((bF11.2.2.2.2.2 == a4)) else some (false))
theorem chaperonlaw16_enters.mono : ∀ a0_0 a0_1 a0_2 a0_3 l0_4 a1 a2 a3_0 a3_1 a3_2 a3_3 l3_4 a4 k, LeO (chaperonlaw16_enters.f k a0_0 a0_1 a0_2 a0_3 l0_4 a1 a2 a3_0 a3_1 a3_2 a3_3 l3_4 a4) (chaperonlaw16_enters.f (k + 1) a0_0 a0_1 a0_2 a0_3 l0_4 a1 a2 a3_0 a3_1 a3_2 a3_3 l3_4 a4) := by
 intro a0_0 a0_1 a0_2 a0_3 l0_4 a1 a2 a3_0 a3_1 a3_2 a3_3 l3_4 a4 k
 unfold chaperonlaw16_enters.f
 repeat' first
  | (with_reducible exact chaperonkit_SameValue.mono _ _ _ _ _ _ _ _ _ _ _)
  | (with_reducible exact coerce_Enter.mono _ _ _ _ _ _ _ _ _ _)
  | (with_reducible exact LeO.refl _)
  | (with_reducible exact LeO.none _)
  | (with_reducible refine LeO.ite ?_ ?_)
  | (with_reducible refine LeO.bind ?_ (fun _ => ?_))
open Go.Proofs.YtinkbljjpafadaaRF Go.Proofs.YtinkbljjpafadaaRG in
set_option maxHeartbeats 2000000 in
set_option maxRecDepth 100000 in
theorem chaperonlaw16_enters.calls (k : Nat) (a0_0 : Int) (a0_1 : Int) (a0_2 : Int) (a0_3 : ByteArray) (A0_4 : Option Addr) (c0_4 : Nat) (l0_4 : List (S35)) (a1 : ByteArray) (a2 : Int) (a3_0 : Int) (a3_1 : Int) (a3_2 : Int) (a3_3 : ByteArray) (A3_4 : Option Addr) (c3_4 : Nat) (l3_4 : List (S35)) (a4 : Int) (r : Bool) (w : World) (hr0_4 : Kd.C k35 w A0_4 l0_4.length l0_4) (hc0_4 : l0_4.length ≤ c0_4) (hr3_4 : Kd.C k35 w A3_4 l3_4.length l3_4) (hc3_4 : l3_4.length ≤ c3_4) (h : chaperonlaw16_enters.f k a0_0 a0_1 a0_2 a0_3 l0_4 a1 a2 a3_0 a3_1 a3_2 a3_3 l3_4 a4 = some r) :
  Calls Try.prog 13 #[.agg #[.int .i64 a0_0, .int .i64 a0_1, .int .u64 a0_2, .string a0_3, .slice A0_4 l0_4.length c0_4], .string a1, .int .i64 a2, .agg #[.int .i64 a3_0, .int .i64 a3_1, .int .u64 a3_2, .string a3_3, .slice A3_4 l3_4.length c3_4], .int .i64 a4] w fun e w' => e = .returned (.bool r) ∧ Below w.heap.size w w' := by
 unfold chaperonlaw16_enters.f at h
 have hu27 := Try.underlying27
 have hu33 := Try.underlying33
 have hu35 := Try.underlying35
 have HB := Aside0.mk (Below.refl w.heap.size w)
 have HC0_4 := Aside0.mk hr0_4
 clear hr0_4
 have HC3_4 := Aside0.mk hr3_4
 clear hr3_4
 replace h := Option.bind_eq_some_iff.1 h
 obtain ⟨t3, F4, h⟩ := h
 try dsimp only at h
 replace F4 := Aside0.mk F4
 replace h := Option.bind_eq_some_iff.1 h
 obtain ⟨⟨t5, t6, t7, t8, t9, t10⟩, F11, h⟩ := h
 try dsimp only at h
 replace F11 := Aside0.mk F11
 replace h := Option.bind_eq_some_iff.1 h
 obtain ⟨t13, F14, h⟩ := h
 try dsimp only at h
 replace F14 := Aside0.mk F14
 by_cases q15 : t13 = true
 ·
  rw [if_pos q15] at h
  obtain rfl : t13 = true := by simpa using q15
  obtain rfl := Option.some.inj h
  go_enter Try.func13, Try.ntmps13
  refine wp_seq ?_
  refine rg_text (N := 29) 0 Grows (by kernel_rfl) rfl Grows.refl Grows.trans ?_
  rw [show List.range 0 = [] from rfl]
  intro vs w1_ hr hE
  have hg : Grows w w1_ := hr
  clear hE hr
  rw [show List.range 0 = [] from rfl]
  simp only [putL, slotOf, List.getElem?_toArray, List.getElem?_cons_zero, List.getElem?_cons_succ, Option.bind_some, Act.put, List.setIfInBounds_toArray, List.set_cons_succ, List.set_cons_zero]
  have hT : Grows w1_ w1_ := Grows.refl _
  obtain ⟨w1_a, hw1_a⟩ : ∃ W, W = w1_.alloc (.cells #[.int .i64 a0_0, .int .i64 a0_1, .int .u64 a0_2, .string a0_3, .slice A0_4 l0_4.length c0_4] 27) := ⟨_, rfl⟩
  obtain ⟨b1_, hb1_⟩ : ∃ n, n = w1_.heap.size := ⟨_, rfl⟩
  refine tail_valD (i := 0) (r := [1, 2]) (w' := w1_a) 5 (.pointer (some ⟨b1_, 0, none⟩)) rfl rfl (wanted_none rfl) (by rw [hw1_a, hb1_]; go_simp) ?_
  simp only [Act.put, List.setIfInBounds_toArray, List.set_cons_succ, List.set_cons_zero]
  have HXb1 : w1_a.heap[b1_]? = some (.cells #[.int .i64 a0_0, .int .i64 a0_1, .int .u64 a0_2, .string a0_3, .slice A0_4 l0_4.length c0_4] 27 (0, 0)) := by rw [hw1_a, hb1_]; exact at_new _ _ rfl
  replace HXb1 := Aside0.mk HXb1
  have hlb1 : w1_.heap.size ≤ b1_ := by rw [hb1_]; exact hT.size
  replace hT : Grows w1_ w1_a := by rw [hw1_a]; exact hT.trans (Grows.alloc _ _)
  clear hw1_a hb1_
  obtain ⟨w1_aa, hw1_aa⟩ : ∃ W, W = w1_a.alloc (.cells #[.int .i64 a3_0, .int .i64 a3_1, .int .u64 a3_2, .string a3_3, .slice A3_4 l3_4.length c3_4] 27) := ⟨_, rfl⟩
  obtain ⟨b2_, hb2_⟩ : ∃ n, n = w1_a.heap.size := ⟨_, rfl⟩
  refine tail_valD (i := 1) (r := [2]) (w' := w1_aa) 8 (.pointer (some ⟨b2_, 0, none⟩)) rfl rfl (wanted_none rfl) (by rw [hw1_aa, hb2_]; go_simp) ?_
  simp only [Act.put, List.setIfInBounds_toArray, List.set_cons_succ, List.set_cons_zero]
  have HXb2 : w1_aa.heap[b2_]? = some (.cells #[.int .i64 a3_0, .int .i64 a3_1, .int .u64 a3_2, .string a3_3, .slice A3_4 l3_4.length c3_4] 27 (0, 0)) := by rw [hw1_aa, hb2_]; exact at_new _ _ rfl
  replace HXb2 := Aside0.mk HXb2
  have hX_ := at_alloc HXb1.out (.cells #[.int .i64 a3_0, .int .i64 a3_1, .int .u64 a3_2, .string a3_3, .slice A3_4 l3_4.length c3_4] 27)
  rw [← hw1_aa] at hX_
  replace HXb1 := Aside0.mk hX_
  clear hX_
  have hlb2 : w1_.heap.size ≤ b2_ := by rw [hb2_]; exact hT.size
  replace hT : Grows w1_ w1_aa := by rw [hw1_aa]; exact hT.trans (Grows.alloc _ _)
  clear hw1_aa hb2_
  refine tail_valD (i := 2) (r := []) (w' := w1_aa) 10 (.bool false) rfl rfl (wanted_none rfl) (by go_simp) ?_
  simp only [Act.put, List.setIfInBounds_toArray, List.set_cons_succ, List.set_cons_zero]
  replace hg : Grows w w1_aa := hg.trans hT
  clear hT
  refine tail_end ?_
  simp only [Exit.then]
  replace HC0_4 := Aside0.mk (Kd.C_below HC0_4.out hg)
  replace HC3_4 := Aside0.mk (Kd.C_below HC3_4.out hg)
  replace HB := Aside0.mk (HB.out.trans (Below.mono hg HB.out.size))
  clear hg
  refine wp_seq ?_
  refine rg_regionL (N := 29) 9 [7] Grows (by kernel_rfl) (by kernel_rfl) rfl Grows.refl Grows.trans rfl rfl rfl rfl (by kernel_rfl) ?_
  rw [show List.range 9 = [0, 1, 2, 3, 4, 5, 6, 7, 8] from rfl]
  refine rgl_call (OneC k64 t3 (fun u => u)) OneC.grows rfl rfl Try.func6 (by kernel_rfl) rfl (fun _ _ _ _ => wanted_none rfl) ?_ ?_
  ·
   intro a w' hr hs
   rw [show (#[] : Array Operand).map a.eval = #[] by simp]
   refine (chaperonlaw16_some.calls t3 _ F4.out).mono ?_
   rintro e w3 ⟨v, rfl, hN, hb⟩
   obtain ⟨A9, c9, rfl, hc9, hC9⟩ := Kd.N_reads hN
   exact ⟨_, rfl, hb, A9, c9, rfl, hc9, hC9⟩
  refine rgl_val (.agg #[.int .i64 a0_0, .int .i64 a0_1, .int .u64 a0_2, .string a0_3, .slice A0_4 l0_4.length c0_4]) Grows.refl rfl (fun _ _ _ _ => wanted_none rfl) ?_ ?_
  ·
   intro a w' hr hs
   have h5 : a.tmps[5]?.getD undef = .pointer (some ⟨b1_, 0, none⟩) := hs.out 5 (by kernel_rfl)
   have x := hr.at (at_drew HXb1.out)
   have x0 := cell_at x 0
   have x1 := cell_at x 1
   have x2 := cell_at x 2
   have x3 := cell_at x 3
   have x4 := cell_at x 4
   simp only [List.getElem?_toArray, List.getElem?_cons_zero, List.getElem?_cons_succ] at x0 x1 x2 x3 x4
   go_simp
  refine rgl_val (.string a1) Grows.refl rfl (fun _ _ _ _ => wanted_none rfl) ?_ ?_
  ·
   intro a w' hr hs
   have h1 : a.tmps[1]?.getD undef = .string a1 := hs.out 1 (by kernel_rfl)
   go_simp
  refine rgl_val (.int .i64 a2) Grows.refl rfl (fun _ _ _ _ => wanted_none rfl) ?_ ?_
  ·
   intro a w' hr hs
   have h2 : a.tmps[2]?.getD undef = .int .i64 a2 := hs.out 2 (by kernel_rfl)
   go_simp
  refine rgl_call (OneR k35 35 t9 (fun u => .tuple #[.agg #[.int .i64 t5, .int .i64 t6, .int .u64 t7, .string t8, u], .int .i64 t10])) OneR.grows rfl rfl Try.func30 (by kernel_rfl) rfl (fun _ _ _ _ => wanted_none rfl) ?_ ?_
  ·
   intro a w' hr hs
   have g14 : OneC k64 t3 (fun u => u) (a.tmps[14]?.getD undef) w' := hs.get 3 rfl (by kernel_rfl) rfl
   obtain ⟨A14, c14, h14, hc14, hC14⟩ := g14.reads
   replace h14 : a.tmps[14]?.getD undef = .slice A14 t3.length c14 := h14
   have h15 : a.tmps[15]?.getD undef = .agg #[.int .i64 a0_0, .int .i64 a0_1, .int .u64 a0_2, .string a0_3, .slice A0_4 l0_4.length c0_4] := hs.get 2 rfl (by kernel_rfl) rfl
   have h16 : a.tmps[16]?.getD undef = .string a1 := hs.get 1 rfl (by kernel_rfl) rfl
   have h17 : a.tmps[17]?.getD undef = .int .i64 a2 := hs.get 0 rfl (by kernel_rfl) rfl
   rw [show (#[Operand.tmp 14, Operand.tmp 15, Operand.tmp 16, Operand.tmp 17, Operand.const (.bool false)] : Array Operand).map a.eval = #[.slice A14 t3.length c14, .agg #[.int .i64 a0_0, .int .i64 a0_1, .int .u64 a0_2, .string a0_3, .slice A0_4 l0_4.length c0_4], .string a1, .int .i64 a2, .bool false] by simp [Act.eval, h14, h15, h16, h17]]
   refine (coerce_Enter.calls k A14 c14 t3 a0_0 a0_1 a0_2 a0_3 A0_4 c0_4 l0_4 a1 a2 false t5 t6 t7 t8 t9 t10 _ hC14 hc14 (Kd.C_below (Kd.C_drew HC0_4.out) hr) hc0_4 F11.out).mono ?_
   rintro e w3 ⟨v, rfl, hR, hb⟩
   exact ⟨_, rfl, hb, OneR.of hR⟩
  refine rgl_keep (OneR k35 35 t9 (fun u => .tuple #[.agg #[.int .i64 t5, .int .i64 t6, .int .u64 t7, .string t8, u], .int .i64 t10])) OneR.grows Grows.refl rfl (fun _ _ _ _ => wanted_none rfl) ?_ ?_
  ·
   intro a w' hr hs
   have g18 : OneR k35 35 t9 (fun u => .tuple #[.agg #[.int .i64 t5, .int .i64 t6, .int .u64 t7, .string t8, u], .int .i64 t10]) (a.tmps[18]?.getD undef) w' := hs.get 0 rfl (by kernel_rfl) rfl
   obtain ⟨A18, c18, h18, hc18, hC18, hR18⟩ := g18.reads
   replace h18 : a.tmps[18]?.getD undef = .tuple #[.agg #[.int .i64 t5, .int .i64 t6, .int .u64 t7, .string t8, .slice A18 t9.length c18], .int .i64 t10] := h18
   exact ⟨.tuple #[.agg #[.int .i64 t5, .int .i64 t6, .int .u64 t7, .string t8, .slice A18 t9.length c18], .int .i64 t10], by go_simp, _, rfl, hR18⟩
  refine rgl_keep (OneR k35 35 t9 (fun u => .agg #[.int .i64 t5, .int .i64 t6, .int .u64 t7, .string t8, u])) OneR.grows Grows.refl rfl (fun _ _ _ _ => wanted_none rfl) ?_ ?_
  ·
   intro a w' hr hs
   have g13 : OneR k35 35 t9 (fun u => .tuple #[.agg #[.int .i64 t5, .int .i64 t6, .int .u64 t7, .string t8, u], .int .i64 t10]) (a.tmps[13]?.getD undef) w' := hs.get 0 rfl (by kernel_rfl) rfl
   obtain ⟨A13, c13, h13, hc13, hC13, hR13⟩ := g13.reads
   replace h13 : a.tmps[13]?.getD undef = .tuple #[.agg #[.int .i64 t5, .int .i64 t6, .int .u64 t7, .string t8, .slice A13 t9.length c13], .int .i64 t10] := h13
   exact ⟨.agg #[.int .i64 t5, .int .i64 t6, .int .u64 t7, .string t8, .slice A13 t9.length c13], by go_simp, _, rfl, hR13⟩
  refine rgl_late (.int .i64 t10) Grows.refl rfl (fun _ _ _ _ => wanted_none rfl) ?_ ?_
  ·
   intro a w' hr hs w3
   have g13 : OneR k35 35 t9 (fun u => .tuple #[.agg #[.int .i64 t5, .int .i64 t6, .int .u64 t7, .string t8, u], .int .i64 t10]) (a.tmps[13]?.getD undef) w' := hs.get 1 rfl (by kernel_rfl) rfl
   obtain ⟨A13, c13, h13, hc13, hC13, hR13⟩ := g13.reads
   replace h13 : a.tmps[13]?.getD undef = .tuple #[.agg #[.int .i64 t5, .int .i64 t6, .int .u64 t7, .string t8, .slice A13 t9.length c13], .int .i64 t10] := h13
   go_simp
  refine rgl_run (Boxed #[.int .i64 0, .int .i64 0, .int .u64 0, .string (⟨#[]⟩ : ByteArray), .slice none 0 0] 27 w1_aa.heap.size) Boxed.grows rfl (fun _ _ _ _ => wanted_none rfl) ?_ ?_
  ·
   intro a w' hr hs
   exact ⟨_, _, by go_simp, Grows.alloc _ _, Boxed.new hr.size⟩
  intro vs w2_ hr hE
  have g_ : OneR k35 35 t9 (fun u => .agg #[.int .i64 t5, .int .i64 t6, .int .u64 t7, .string t8, u]) (vs 6) w2_ := hE _ (mem_at 2 rfl)
  obtain ⟨Au16, cu16, e6, hcu16, hCu16, hRu16⟩ := g_.reads
  clear g_
  replace e6 : vs 6 = .agg #[.int .i64 t5, .int .i64 t6, .int .u64 t7, .string t8, .slice Au16 t9.length cu16] := e6
  have HCu16 := Aside0.mk hCu16
  clear hCu16
  have HRu16 := Aside0.mk hRu16
  clear hRu16
  have e7 : vs 7 = .int .i64 t10 := hE _ (mem_at 1 rfl)
  obtain ⟨b12_, e8, HXb12, hlb12⟩ := hE _ (mem_at 0 rfl)
  replace HXb12 := Aside0.mk HXb12
  have hg : Grows w1_aa w2_ := Below.trans (Below.refl w1_aa.heap.size w1_aa).drew hr
  clear hE hr
  rw [show List.range 9 = [0, 1, 2, 3, 4, 5, 6, 7, 8] from rfl]
  simp only [putL, slotOf, List.getElem?_toArray, List.getElem?_cons_zero, List.getElem?_cons_succ, Option.bind_some, Act.put, List.setIfInBounds_toArray, List.set_cons_succ, List.set_cons_zero, e6, e7, e8]
  clear e6 e7 e8
  have z0 := cell_at HXb12.out 0
  have f0 := free_at HXb12.out 0
  have z1 := cell_at HXb12.out 1
  have f1 := free_at HXb12.out 1
  have z2 := cell_at HXb12.out 2
  have f2 := free_at HXb12.out 2
  have z3 := cell_at HXb12.out 3
  have f3 := free_at HXb12.out 3
  have z4 := cell_at HXb12.out 4
  have f4 := free_at HXb12.out 4
  simp only [List.getElem?_toArray, List.getElem?_cons_zero, List.getElem?_cons_succ] at z0 z1 z2 z3 z4
  obtain ⟨w2_s, hw2_s⟩ : ∃ W, W = (((((w2_.setCell ⟨b12_, 0, none⟩ (.int .i64 t5)).setCell ⟨b12_, 1, none⟩ (.int .i64 t6)).setCell ⟨b12_, 2, none⟩ (.int .u64 t7)).setCell ⟨b12_, 3, none⟩ (.string t8)).setCell ⟨b12_, 4, none⟩ (.slice Au16 t9.length cu16)) := ⟨_, rfl⟩
  refine ⟨_, w2_s, rfl, by rw [hw2_s]; go_simp, ?_⟩
  clear z0 z1 z2 z3 z4 f0 f1 f2 f3 f4
  have hR_ := (Kd.R_set (Kd.R_set (Kd.R_set (Kd.R_set (Kd.R_set HRu16.out HXb12.out (by decide) 0 (.int .i64 t5)) (blk_put HXb12.out 0 (.int .i64 t5) rfl) (by decide) 1 (.int .i64 t6)) (blk_put (blk_put HXb12.out 0 (.int .i64 t5) rfl) 1 (.int .i64 t6) rfl) (by decide) 2 (.int .u64 t7)) (blk_put (blk_put (blk_put HXb12.out 0 (.int .i64 t5) rfl) 1 (.int .i64 t6) rfl) 2 (.int .u64 t7) rfl) (by decide) 3 (.string t8)) (blk_put (blk_put (blk_put (blk_put HXb12.out 0 (.int .i64 t5) rfl) 1 (.int .i64 t6) rfl) 2 (.int .u64 t7) rfl) 3 (.string t8) rfl) (by decide) 4 (.slice Au16 t9.length cu16))
  rw [← hw2_s] at hR_
  have HCu16 := Aside0.mk (Kd.R_reads' hR_).2.2
  replace HRu16 := Aside0.mk hR_
  clear hR_
  have hX_ : w2_s.heap[b12_]? = some (.cells #[.int .i64 t5, .int .i64 t6, .int .u64 t7, .string t8, .slice Au16 t9.length cu16] 27 (0, 0)) := by rw [hw2_s]; exact (blk_put (blk_put (blk_put (blk_put (blk_put HXb12.out 0 (.int .i64 t5) rfl) 1 (.int .i64 t6) rfl) 2 (.int .u64 t7) rfl) 3 (.string t8) rfl) 4 (.slice Au16 t9.length cu16) rfl)
  replace HXb12 := Aside0.mk hX_
  clear hX_
  replace hg : Grows w1_aa w2_s := by rw [hw2_s]; exact (setB (setB (setB (setB (setB hg hlb12 (.int .i64 t5)) hlb12 (.int .i64 t6)) hlb12 (.int .u64 t7)) hlb12 (.string t8)) hlb12 (.slice Au16 t9.length cu16))
  clear hw2_s
  refine tail_valD (i := 10) (r := []) (w' := w2_s) 12 (.int .i64 t10) rfl rfl (wanted_none rfl) (by go_simp) ?_
  simp only [Act.put, List.setIfInBounds_toArray, List.set_cons_succ, List.set_cons_zero]
  refine tail_end ?_
  simp only [Exit.then]
  replace HC0_4 := Aside0.mk (Kd.C_below HC0_4.out hg)
  replace HC3_4 := Aside0.mk (Kd.C_below HC3_4.out hg)
  replace HXb1 := Aside0.mk (hg.at HXb1.out)
  replace HXb2 := Aside0.mk (hg.at HXb2.out)
  replace HB := Aside0.mk (HB.out.trans (Below.mono hg HB.out.size))
  clear hg
  refine wp_seq ?_
  refine rg_text (N := 29) 9 Grows (by kernel_rfl) rfl Grows.refl Grows.trans ?_
  rw [show List.range 9 = [0, 1, 2, 3, 4, 5, 6, 7, 8] from rfl]
  refine rg_val (.agg #[.int .i64 t5, .int .i64 t6, .int .u64 t7, .string t8, .slice Au16 t9.length cu16]) Grows.refl rfl (fun _ _ _ _ => wanted_none rfl) ?_ ?_
  ·
   intro a w' hr hs
   have h11 : a.tmps[11]?.getD undef = .pointer (some ⟨b12_, 0, none⟩) := hs.out 11 (by kernel_rfl)
   have x := hr.at HXb12.out
   have x0 := cell_at x 0
   have x1 := cell_at x 1
   have x2 := cell_at x 2
   have x3 := cell_at x 3
   have x4 := cell_at x 4
   simp only [List.getElem?_toArray, List.getElem?_cons_zero, List.getElem?_cons_succ] at x0 x1 x2 x3 x4
   go_simp
  refine rg_val (.agg #[.int .i64 a3_0, .int .i64 a3_1, .int .u64 a3_2, .string a3_3, .slice A3_4 l3_4.length c3_4]) Grows.refl rfl (fun _ _ _ _ => wanted_none rfl) ?_ ?_
  ·
   intro a w' hr hs
   have h8 : a.tmps[8]?.getD undef = .pointer (some ⟨b2_, 0, none⟩) := hs.out 8 (by kernel_rfl)
   have x := hr.at HXb2.out
   have x0 := cell_at x 0
   have x1 := cell_at x 1
   have x2 := cell_at x 2
   have x3 := cell_at x 3
   have x4 := cell_at x 4
   simp only [List.getElem?_toArray, List.getElem?_cons_zero, List.getElem?_cons_succ] at x0 x1 x2 x3 x4
   go_simp
  refine rg_call (fun v _ => v = .bool true) (fun _ _ _ _ h => h) rfl rfl Try.func14 (by kernel_rfl) rfl (fun _ _ _ _ => wanted_none rfl) ?_ ?_
  ·
   intro a w' hr hs
   have h21 : a.tmps[21]?.getD undef = .agg #[.int .i64 t5, .int .i64 t6, .int .u64 t7, .string t8, .slice Au16 t9.length cu16] := hs.get 1 rfl (by kernel_rfl) rfl
   have h22 : a.tmps[22]?.getD undef = .agg #[.int .i64 a3_0, .int .i64 a3_1, .int .u64 a3_2, .string a3_3, .slice A3_4 l3_4.length c3_4] := hs.get 0 rfl (by kernel_rfl) rfl
   rw [show (#[Operand.tmp 21, Operand.tmp 22] : Array Operand).map a.eval = #[.agg #[.int .i64 t5, .int .i64 t6, .int .u64 t7, .string t8, .slice Au16 t9.length cu16], .agg #[.int .i64 a3_0, .int .i64 a3_1, .int .u64 a3_2, .string a3_3, .slice A3_4 l3_4.length c3_4]] by simp [Act.eval, h21, h22]]
   refine (chaperonkit_SameValue.calls k t5 t6 t7 t8 Au16 cu16 t9 a3_0 a3_1 a3_2 a3_3 A3_4 c3_4 l3_4 true _ (Kd.C_below HCu16.out hr) hcu16 (Kd.C_below HC3_4.out hr) hc3_4 F14.out).mono ?_
   rintro e w3 ⟨rfl, hb⟩
   exact ⟨_, rfl, hb, rfl⟩
  refine rg_val (.bool true) Grows.refl rfl (fun _ _ _ _ => wanted_none rfl) ?_ ?_
  ·
   intro a w' hr hs
   have h23 : a.tmps[23]?.getD undef = .bool true := hs.get 0 rfl (by kernel_rfl) rfl
   go_simp
  refine rg_val (.int .i64 t10) Grows.refl rfl (fun a w hr hs => on_guard (g := 3) (t := 24) rfl rfl (hs.get 0 rfl (by kernel_rfl) rfl)) ?_ ?_
  ·
   intro a w' hr hs
   have h12 : a.tmps[12]?.getD undef = .int .i64 t10 := hs.out 12 (by kernel_rfl)
   go_simp
  refine rg_val (.int .i64 a4) Grows.refl rfl (fun a w hr hs => on_guard (g := 3) (t := 24) rfl rfl (hs.get 1 rfl (by kernel_rfl) rfl)) ?_ ?_
  ·
   intro a w' hr hs
   have h4 : a.tmps[4]?.getD undef = .int .i64 a4 := hs.out 4 (by kernel_rfl)
   go_simp
  refine rg_val (.bool (t10 == a4)) Grows.refl rfl (fun a w hr hs => on_guard (g := 3) (t := 24) rfl rfl (hs.get 2 rfl (by kernel_rfl) rfl)) ?_ ?_
  ·
   intro a w' hr hs
   have h25 : a.tmps[25]?.getD undef = .int .i64 t10 := hs.get 1 rfl (by kernel_rfl) rfl
   have h26 : a.tmps[26]?.getD undef = .int .i64 a4 := hs.get 0 rfl (by kernel_rfl) rfl
   go_simp
  refine rg_val (.bool (t10 == a4)) Grows.refl rfl (fun _ _ _ _ => wanted_none rfl) ?_ ?_
  ·
   intro a w' hr hs
   have h24 : a.tmps[24]?.getD undef = .bool true := hs.get 3 rfl (by kernel_rfl) rfl
   have h27 : a.tmps[27]?.getD undef = .bool (t10 == a4) := hs.get 0 rfl (by kernel_rfl) rfl
   go_simp
  refine rg_val (.bool (t10 == a4)) Grows.refl rfl (fun _ _ _ _ => wanted_none rfl) ?_ ?_
  ·
   intro a w' hr hs
   have h28 : a.tmps[28]?.getD undef = .bool (t10 == a4) := hs.get 0 rfl (by kernel_rfl) rfl
   go_simp
  intro vs w3_ hr hE
  have e8 : vs 8 = .bool (t10 == a4) := hE _ (mem_at 0 rfl)
  have hg : Grows w2_s w3_ := hr
  clear hE hr
  rw [show List.range 9 = [0, 1, 2, 3, 4, 5, 6, 7, 8] from rfl]
  simp only [putL, slotOf, List.getElem?_toArray, List.getElem?_cons_zero, List.getElem?_cons_succ, Option.bind_some, Act.put, List.setIfInBounds_toArray, List.set_cons_succ, List.set_cons_zero, e8]
  clear e8
  have hT : Grows w3_ w3_ := Grows.refl _
  replace hg : Grows w2_s w3_ := hg.trans hT
  clear hT
  refine tail_end ?_
  simp only [Exit.then]
  replace HC0_4 := Aside0.mk (Kd.C_below HC0_4.out hg)
  replace HC3_4 := Aside0.mk (Kd.C_below HC3_4.out hg)
  replace HCu16 := Aside0.mk (Kd.C_below HCu16.out hg)
  replace HXb1 := Aside0.mk (hg.at HXb1.out)
  replace HXb2 := Aside0.mk (hg.at HXb2.out)
  replace HXb12 := Aside0.mk (hg.at HXb12.out)
  replace HB := Aside0.mk (HB.out.trans (Below.mono hg HB.out.size))
  clear hg
  go_wp2_with fail
  go_ret
  exact ⟨rfl, HB.out⟩
 ·
  rw [if_neg q15] at h
  obtain rfl : t13 = false := by simpa using q15
  obtain rfl := Option.some.inj h
  go_enter Try.func13, Try.ntmps13
  refine wp_seq ?_
  refine rg_text (N := 29) 0 Grows (by kernel_rfl) rfl Grows.refl Grows.trans ?_
  rw [show List.range 0 = [] from rfl]
  intro vs w1_ hr hE
  have hg : Grows w w1_ := hr
  clear hE hr
  rw [show List.range 0 = [] from rfl]
  simp only [putL, slotOf, List.getElem?_toArray, List.getElem?_cons_zero, List.getElem?_cons_succ, Option.bind_some, Act.put, List.setIfInBounds_toArray, List.set_cons_succ, List.set_cons_zero]
  have hT : Grows w1_ w1_ := Grows.refl _
  obtain ⟨w1_a, hw1_a⟩ : ∃ W, W = w1_.alloc (.cells #[.int .i64 a0_0, .int .i64 a0_1, .int .u64 a0_2, .string a0_3, .slice A0_4 l0_4.length c0_4] 27) := ⟨_, rfl⟩
  obtain ⟨b1_, hb1_⟩ : ∃ n, n = w1_.heap.size := ⟨_, rfl⟩
  refine tail_valD (i := 0) (r := [1, 2]) (w' := w1_a) 5 (.pointer (some ⟨b1_, 0, none⟩)) rfl rfl (wanted_none rfl) (by rw [hw1_a, hb1_]; go_simp) ?_
  simp only [Act.put, List.setIfInBounds_toArray, List.set_cons_succ, List.set_cons_zero]
  have HXb1 : w1_a.heap[b1_]? = some (.cells #[.int .i64 a0_0, .int .i64 a0_1, .int .u64 a0_2, .string a0_3, .slice A0_4 l0_4.length c0_4] 27 (0, 0)) := by rw [hw1_a, hb1_]; exact at_new _ _ rfl
  replace HXb1 := Aside0.mk HXb1
  have hlb1 : w1_.heap.size ≤ b1_ := by rw [hb1_]; exact hT.size
  replace hT : Grows w1_ w1_a := by rw [hw1_a]; exact hT.trans (Grows.alloc _ _)
  clear hw1_a hb1_
  obtain ⟨w1_aa, hw1_aa⟩ : ∃ W, W = w1_a.alloc (.cells #[.int .i64 a3_0, .int .i64 a3_1, .int .u64 a3_2, .string a3_3, .slice A3_4 l3_4.length c3_4] 27) := ⟨_, rfl⟩
  obtain ⟨b2_, hb2_⟩ : ∃ n, n = w1_a.heap.size := ⟨_, rfl⟩
  refine tail_valD (i := 1) (r := [2]) (w' := w1_aa) 8 (.pointer (some ⟨b2_, 0, none⟩)) rfl rfl (wanted_none rfl) (by rw [hw1_aa, hb2_]; go_simp) ?_
  simp only [Act.put, List.setIfInBounds_toArray, List.set_cons_succ, List.set_cons_zero]
  have HXb2 : w1_aa.heap[b2_]? = some (.cells #[.int .i64 a3_0, .int .i64 a3_1, .int .u64 a3_2, .string a3_3, .slice A3_4 l3_4.length c3_4] 27 (0, 0)) := by rw [hw1_aa, hb2_]; exact at_new _ _ rfl
  replace HXb2 := Aside0.mk HXb2
  have hX_ := at_alloc HXb1.out (.cells #[.int .i64 a3_0, .int .i64 a3_1, .int .u64 a3_2, .string a3_3, .slice A3_4 l3_4.length c3_4] 27)
  rw [← hw1_aa] at hX_
  replace HXb1 := Aside0.mk hX_
  clear hX_
  have hlb2 : w1_.heap.size ≤ b2_ := by rw [hb2_]; exact hT.size
  replace hT : Grows w1_ w1_aa := by rw [hw1_aa]; exact hT.trans (Grows.alloc _ _)
  clear hw1_aa hb2_
  refine tail_valD (i := 2) (r := []) (w' := w1_aa) 10 (.bool false) rfl rfl (wanted_none rfl) (by go_simp) ?_
  simp only [Act.put, List.setIfInBounds_toArray, List.set_cons_succ, List.set_cons_zero]
  replace hg : Grows w w1_aa := hg.trans hT
  clear hT
  refine tail_end ?_
  simp only [Exit.then]
  replace HC0_4 := Aside0.mk (Kd.C_below HC0_4.out hg)
  replace HC3_4 := Aside0.mk (Kd.C_below HC3_4.out hg)
  replace HB := Aside0.mk (HB.out.trans (Below.mono hg HB.out.size))
  clear hg
  refine wp_seq ?_
  refine rg_regionL (N := 29) 9 [7] Grows (by kernel_rfl) (by kernel_rfl) rfl Grows.refl Grows.trans rfl rfl rfl rfl (by kernel_rfl) ?_
  rw [show List.range 9 = [0, 1, 2, 3, 4, 5, 6, 7, 8] from rfl]
  refine rgl_call (OneC k64 t3 (fun u => u)) OneC.grows rfl rfl Try.func6 (by kernel_rfl) rfl (fun _ _ _ _ => wanted_none rfl) ?_ ?_
  ·
   intro a w' hr hs
   rw [show (#[] : Array Operand).map a.eval = #[] by simp]
   refine (chaperonlaw16_some.calls t3 _ F4.out).mono ?_
   rintro e w3 ⟨v, rfl, hN, hb⟩
   obtain ⟨A9, c9, rfl, hc9, hC9⟩ := Kd.N_reads hN
   exact ⟨_, rfl, hb, A9, c9, rfl, hc9, hC9⟩
  refine rgl_val (.agg #[.int .i64 a0_0, .int .i64 a0_1, .int .u64 a0_2, .string a0_3, .slice A0_4 l0_4.length c0_4]) Grows.refl rfl (fun _ _ _ _ => wanted_none rfl) ?_ ?_
  ·
   intro a w' hr hs
   have h5 : a.tmps[5]?.getD undef = .pointer (some ⟨b1_, 0, none⟩) := hs.out 5 (by kernel_rfl)
   have x := hr.at (at_drew HXb1.out)
   have x0 := cell_at x 0
   have x1 := cell_at x 1
   have x2 := cell_at x 2
   have x3 := cell_at x 3
   have x4 := cell_at x 4
   simp only [List.getElem?_toArray, List.getElem?_cons_zero, List.getElem?_cons_succ] at x0 x1 x2 x3 x4
   go_simp
  refine rgl_val (.string a1) Grows.refl rfl (fun _ _ _ _ => wanted_none rfl) ?_ ?_
  ·
   intro a w' hr hs
   have h1 : a.tmps[1]?.getD undef = .string a1 := hs.out 1 (by kernel_rfl)
   go_simp
  refine rgl_val (.int .i64 a2) Grows.refl rfl (fun _ _ _ _ => wanted_none rfl) ?_ ?_
  ·
   intro a w' hr hs
   have h2 : a.tmps[2]?.getD undef = .int .i64 a2 := hs.out 2 (by kernel_rfl)
   go_simp
  refine rgl_call (OneR k35 35 t9 (fun u => .tuple #[.agg #[.int .i64 t5, .int .i64 t6, .int .u64 t7, .string t8, u], .int .i64 t10])) OneR.grows rfl rfl Try.func30 (by kernel_rfl) rfl (fun _ _ _ _ => wanted_none rfl) ?_ ?_
  ·
   intro a w' hr hs
   have g14 : OneC k64 t3 (fun u => u) (a.tmps[14]?.getD undef) w' := hs.get 3 rfl (by kernel_rfl) rfl
   obtain ⟨A14, c14, h14, hc14, hC14⟩ := g14.reads
   replace h14 : a.tmps[14]?.getD undef = .slice A14 t3.length c14 := h14
   have h15 : a.tmps[15]?.getD undef = .agg #[.int .i64 a0_0, .int .i64 a0_1, .int .u64 a0_2, .string a0_3, .slice A0_4 l0_4.length c0_4] := hs.get 2 rfl (by kernel_rfl) rfl
   have h16 : a.tmps[16]?.getD undef = .string a1 := hs.get 1 rfl (by kernel_rfl) rfl
   have h17 : a.tmps[17]?.getD undef = .int .i64 a2 := hs.get 0 rfl (by kernel_rfl) rfl
   rw [show (#[Operand.tmp 14, Operand.tmp 15, Operand.tmp 16, Operand.tmp 17, Operand.const (.bool false)] : Array Operand).map a.eval = #[.slice A14 t3.length c14, .agg #[.int .i64 a0_0, .int .i64 a0_1, .int .u64 a0_2, .string a0_3, .slice A0_4 l0_4.length c0_4], .string a1, .int .i64 a2, .bool false] by simp [Act.eval, h14, h15, h16, h17]]
   refine (coerce_Enter.calls k A14 c14 t3 a0_0 a0_1 a0_2 a0_3 A0_4 c0_4 l0_4 a1 a2 false t5 t6 t7 t8 t9 t10 _ hC14 hc14 (Kd.C_below (Kd.C_drew HC0_4.out) hr) hc0_4 F11.out).mono ?_
   rintro e w3 ⟨v, rfl, hR, hb⟩
   exact ⟨_, rfl, hb, OneR.of hR⟩
  refine rgl_keep (OneR k35 35 t9 (fun u => .tuple #[.agg #[.int .i64 t5, .int .i64 t6, .int .u64 t7, .string t8, u], .int .i64 t10])) OneR.grows Grows.refl rfl (fun _ _ _ _ => wanted_none rfl) ?_ ?_
  ·
   intro a w' hr hs
   have g18 : OneR k35 35 t9 (fun u => .tuple #[.agg #[.int .i64 t5, .int .i64 t6, .int .u64 t7, .string t8, u], .int .i64 t10]) (a.tmps[18]?.getD undef) w' := hs.get 0 rfl (by kernel_rfl) rfl
   obtain ⟨A18, c18, h18, hc18, hC18, hR18⟩ := g18.reads
   replace h18 : a.tmps[18]?.getD undef = .tuple #[.agg #[.int .i64 t5, .int .i64 t6, .int .u64 t7, .string t8, .slice A18 t9.length c18], .int .i64 t10] := h18
   exact ⟨.tuple #[.agg #[.int .i64 t5, .int .i64 t6, .int .u64 t7, .string t8, .slice A18 t9.length c18], .int .i64 t10], by go_simp, _, rfl, hR18⟩
  refine rgl_keep (OneR k35 35 t9 (fun u => .agg #[.int .i64 t5, .int .i64 t6, .int .u64 t7, .string t8, u])) OneR.grows Grows.refl rfl (fun _ _ _ _ => wanted_none rfl) ?_ ?_
  ·
   intro a w' hr hs
   have g13 : OneR k35 35 t9 (fun u => .tuple #[.agg #[.int .i64 t5, .int .i64 t6, .int .u64 t7, .string t8, u], .int .i64 t10]) (a.tmps[13]?.getD undef) w' := hs.get 0 rfl (by kernel_rfl) rfl
   obtain ⟨A13, c13, h13, hc13, hC13, hR13⟩ := g13.reads
   replace h13 : a.tmps[13]?.getD undef = .tuple #[.agg #[.int .i64 t5, .int .i64 t6, .int .u64 t7, .string t8, .slice A13 t9.length c13], .int .i64 t10] := h13
   exact ⟨.agg #[.int .i64 t5, .int .i64 t6, .int .u64 t7, .string t8, .slice A13 t9.length c13], by go_simp, _, rfl, hR13⟩
  refine rgl_late (.int .i64 t10) Grows.refl rfl (fun _ _ _ _ => wanted_none rfl) ?_ ?_
  ·
   intro a w' hr hs w3
   have g13 : OneR k35 35 t9 (fun u => .tuple #[.agg #[.int .i64 t5, .int .i64 t6, .int .u64 t7, .string t8, u], .int .i64 t10]) (a.tmps[13]?.getD undef) w' := hs.get 1 rfl (by kernel_rfl) rfl
   obtain ⟨A13, c13, h13, hc13, hC13, hR13⟩ := g13.reads
   replace h13 : a.tmps[13]?.getD undef = .tuple #[.agg #[.int .i64 t5, .int .i64 t6, .int .u64 t7, .string t8, .slice A13 t9.length c13], .int .i64 t10] := h13
   go_simp
  refine rgl_run (Boxed #[.int .i64 0, .int .i64 0, .int .u64 0, .string (⟨#[]⟩ : ByteArray), .slice none 0 0] 27 w1_aa.heap.size) Boxed.grows rfl (fun _ _ _ _ => wanted_none rfl) ?_ ?_
  ·
   intro a w' hr hs
   exact ⟨_, _, by go_simp, Grows.alloc _ _, Boxed.new hr.size⟩
  intro vs w2_ hr hE
  have g_ : OneR k35 35 t9 (fun u => .agg #[.int .i64 t5, .int .i64 t6, .int .u64 t7, .string t8, u]) (vs 6) w2_ := hE _ (mem_at 2 rfl)
  obtain ⟨Au17, cu17, e6, hcu17, hCu17, hRu17⟩ := g_.reads
  clear g_
  replace e6 : vs 6 = .agg #[.int .i64 t5, .int .i64 t6, .int .u64 t7, .string t8, .slice Au17 t9.length cu17] := e6
  have HCu17 := Aside0.mk hCu17
  clear hCu17
  have HRu17 := Aside0.mk hRu17
  clear hRu17
  have e7 : vs 7 = .int .i64 t10 := hE _ (mem_at 1 rfl)
  obtain ⟨b12_, e8, HXb12, hlb12⟩ := hE _ (mem_at 0 rfl)
  replace HXb12 := Aside0.mk HXb12
  have hg : Grows w1_aa w2_ := Below.trans (Below.refl w1_aa.heap.size w1_aa).drew hr
  clear hE hr
  rw [show List.range 9 = [0, 1, 2, 3, 4, 5, 6, 7, 8] from rfl]
  simp only [putL, slotOf, List.getElem?_toArray, List.getElem?_cons_zero, List.getElem?_cons_succ, Option.bind_some, Act.put, List.setIfInBounds_toArray, List.set_cons_succ, List.set_cons_zero, e6, e7, e8]
  clear e6 e7 e8
  have z0 := cell_at HXb12.out 0
  have f0 := free_at HXb12.out 0
  have z1 := cell_at HXb12.out 1
  have f1 := free_at HXb12.out 1
  have z2 := cell_at HXb12.out 2
  have f2 := free_at HXb12.out 2
  have z3 := cell_at HXb12.out 3
  have f3 := free_at HXb12.out 3
  have z4 := cell_at HXb12.out 4
  have f4 := free_at HXb12.out 4
  simp only [List.getElem?_toArray, List.getElem?_cons_zero, List.getElem?_cons_succ] at z0 z1 z2 z3 z4
  obtain ⟨w2_s, hw2_s⟩ : ∃ W, W = (((((w2_.setCell ⟨b12_, 0, none⟩ (.int .i64 t5)).setCell ⟨b12_, 1, none⟩ (.int .i64 t6)).setCell ⟨b12_, 2, none⟩ (.int .u64 t7)).setCell ⟨b12_, 3, none⟩ (.string t8)).setCell ⟨b12_, 4, none⟩ (.slice Au17 t9.length cu17)) := ⟨_, rfl⟩
  refine ⟨_, w2_s, rfl, by rw [hw2_s]; go_simp, ?_⟩
  clear z0 z1 z2 z3 z4 f0 f1 f2 f3 f4
  have hR_ := (Kd.R_set (Kd.R_set (Kd.R_set (Kd.R_set (Kd.R_set HRu17.out HXb12.out (by decide) 0 (.int .i64 t5)) (blk_put HXb12.out 0 (.int .i64 t5) rfl) (by decide) 1 (.int .i64 t6)) (blk_put (blk_put HXb12.out 0 (.int .i64 t5) rfl) 1 (.int .i64 t6) rfl) (by decide) 2 (.int .u64 t7)) (blk_put (blk_put (blk_put HXb12.out 0 (.int .i64 t5) rfl) 1 (.int .i64 t6) rfl) 2 (.int .u64 t7) rfl) (by decide) 3 (.string t8)) (blk_put (blk_put (blk_put (blk_put HXb12.out 0 (.int .i64 t5) rfl) 1 (.int .i64 t6) rfl) 2 (.int .u64 t7) rfl) 3 (.string t8) rfl) (by decide) 4 (.slice Au17 t9.length cu17))
  rw [← hw2_s] at hR_
  have HCu17 := Aside0.mk (Kd.R_reads' hR_).2.2
  replace HRu17 := Aside0.mk hR_
  clear hR_
  have hX_ : w2_s.heap[b12_]? = some (.cells #[.int .i64 t5, .int .i64 t6, .int .u64 t7, .string t8, .slice Au17 t9.length cu17] 27 (0, 0)) := by rw [hw2_s]; exact (blk_put (blk_put (blk_put (blk_put (blk_put HXb12.out 0 (.int .i64 t5) rfl) 1 (.int .i64 t6) rfl) 2 (.int .u64 t7) rfl) 3 (.string t8) rfl) 4 (.slice Au17 t9.length cu17) rfl)
  replace HXb12 := Aside0.mk hX_
  clear hX_
  replace hg : Grows w1_aa w2_s := by rw [hw2_s]; exact (setB (setB (setB (setB (setB hg hlb12 (.int .i64 t5)) hlb12 (.int .i64 t6)) hlb12 (.int .u64 t7)) hlb12 (.string t8)) hlb12 (.slice Au17 t9.length cu17))
  clear hw2_s
  refine tail_valD (i := 10) (r := []) (w' := w2_s) 12 (.int .i64 t10) rfl rfl (wanted_none rfl) (by go_simp) ?_
  simp only [Act.put, List.setIfInBounds_toArray, List.set_cons_succ, List.set_cons_zero]
  refine tail_end ?_
  simp only [Exit.then]
  replace HC0_4 := Aside0.mk (Kd.C_below HC0_4.out hg)
  replace HC3_4 := Aside0.mk (Kd.C_below HC3_4.out hg)
  replace HXb1 := Aside0.mk (hg.at HXb1.out)
  replace HXb2 := Aside0.mk (hg.at HXb2.out)
  replace HB := Aside0.mk (HB.out.trans (Below.mono hg HB.out.size))
  clear hg
  refine wp_seq ?_
  refine rg_text (N := 29) 9 Grows (by kernel_rfl) rfl Grows.refl Grows.trans ?_
  rw [show List.range 9 = [0, 1, 2, 3, 4, 5, 6, 7, 8] from rfl]
  refine rg_val (.agg #[.int .i64 t5, .int .i64 t6, .int .u64 t7, .string t8, .slice Au17 t9.length cu17]) Grows.refl rfl (fun _ _ _ _ => wanted_none rfl) ?_ ?_
  ·
   intro a w' hr hs
   have h11 : a.tmps[11]?.getD undef = .pointer (some ⟨b12_, 0, none⟩) := hs.out 11 (by kernel_rfl)
   have x := hr.at HXb12.out
   have x0 := cell_at x 0
   have x1 := cell_at x 1
   have x2 := cell_at x 2
   have x3 := cell_at x 3
   have x4 := cell_at x 4
   simp only [List.getElem?_toArray, List.getElem?_cons_zero, List.getElem?_cons_succ] at x0 x1 x2 x3 x4
   go_simp
  refine rg_val (.agg #[.int .i64 a3_0, .int .i64 a3_1, .int .u64 a3_2, .string a3_3, .slice A3_4 l3_4.length c3_4]) Grows.refl rfl (fun _ _ _ _ => wanted_none rfl) ?_ ?_
  ·
   intro a w' hr hs
   have h8 : a.tmps[8]?.getD undef = .pointer (some ⟨b2_, 0, none⟩) := hs.out 8 (by kernel_rfl)
   have x := hr.at HXb2.out
   have x0 := cell_at x 0
   have x1 := cell_at x 1
   have x2 := cell_at x 2
   have x3 := cell_at x 3
   have x4 := cell_at x 4
   simp only [List.getElem?_toArray, List.getElem?_cons_zero, List.getElem?_cons_succ] at x0 x1 x2 x3 x4
   go_simp
  refine rg_call (fun v _ => v = .bool false) (fun _ _ _ _ h => h) rfl rfl Try.func14 (by kernel_rfl) rfl (fun _ _ _ _ => wanted_none rfl) ?_ ?_
  ·
   intro a w' hr hs
   have h21 : a.tmps[21]?.getD undef = .agg #[.int .i64 t5, .int .i64 t6, .int .u64 t7, .string t8, .slice Au17 t9.length cu17] := hs.get 1 rfl (by kernel_rfl) rfl
   have h22 : a.tmps[22]?.getD undef = .agg #[.int .i64 a3_0, .int .i64 a3_1, .int .u64 a3_2, .string a3_3, .slice A3_4 l3_4.length c3_4] := hs.get 0 rfl (by kernel_rfl) rfl
   rw [show (#[Operand.tmp 21, Operand.tmp 22] : Array Operand).map a.eval = #[.agg #[.int .i64 t5, .int .i64 t6, .int .u64 t7, .string t8, .slice Au17 t9.length cu17], .agg #[.int .i64 a3_0, .int .i64 a3_1, .int .u64 a3_2, .string a3_3, .slice A3_4 l3_4.length c3_4]] by simp [Act.eval, h21, h22]]
   refine (chaperonkit_SameValue.calls k t5 t6 t7 t8 Au17 cu17 t9 a3_0 a3_1 a3_2 a3_3 A3_4 c3_4 l3_4 false _ (Kd.C_below HCu17.out hr) hcu17 (Kd.C_below HC3_4.out hr) hc3_4 F14.out).mono ?_
   rintro e w3 ⟨rfl, hb⟩
   exact ⟨_, rfl, hb, rfl⟩
  refine rg_val (.bool false) Grows.refl rfl (fun _ _ _ _ => wanted_none rfl) ?_ ?_
  ·
   intro a w' hr hs
   have h23 : a.tmps[23]?.getD undef = .bool false := hs.get 0 rfl (by kernel_rfl) rfl
   go_simp
  refine rg_off rfl (fun a w hr hs => (of_guard (g := 3) (t := 24) (b' := false) rfl rfl (hs.get 0 rfl (by kernel_rfl) rfl)).trans rfl) ?_
  refine rg_off rfl (fun a w hr hs => (of_guard (g := 3) (t := 24) (b' := false) rfl rfl (hs.get 1 rfl (by kernel_rfl) rfl)).trans rfl) ?_
  refine rg_off rfl (fun a w hr hs => (of_guard (g := 3) (t := 24) (b' := false) rfl rfl (hs.get 2 rfl (by kernel_rfl) rfl)).trans rfl) ?_
  refine rg_val (.bool false) Grows.refl rfl (fun _ _ _ _ => wanted_none rfl) ?_ ?_
  ·
   intro a w' hr hs
   have h24 : a.tmps[24]?.getD undef = .bool false := hs.get 3 rfl (by kernel_rfl) rfl
   go_simp
  refine rg_val (.bool false) Grows.refl rfl (fun _ _ _ _ => wanted_none rfl) ?_ ?_
  ·
   intro a w' hr hs
   have h28 : a.tmps[28]?.getD undef = .bool false := hs.get 0 rfl (by kernel_rfl) rfl
   go_simp
  intro vs w3_ hr hE
  have e8 : vs 8 = .bool false := hE _ (mem_at 0 rfl)
  have hg : Grows w2_s w3_ := hr
  clear hE hr
  rw [show List.range 9 = [0, 1, 2, 3, 4, 5, 6, 7, 8] from rfl]
  simp only [putL, slotOf, List.getElem?_toArray, List.getElem?_cons_zero, List.getElem?_cons_succ, Option.bind_some, Act.put, List.setIfInBounds_toArray, List.set_cons_succ, List.set_cons_zero, e8]
  clear e8
  have hT : Grows w3_ w3_ := Grows.refl _
  replace hg : Grows w2_s w3_ := hg.trans hT
  clear hT
  refine tail_end ?_
  simp only [Exit.then]
  replace HC0_4 := Aside0.mk (Kd.C_below HC0_4.out hg)
  replace HC3_4 := Aside0.mk (Kd.C_below HC3_4.out hg)
  replace HCu17 := Aside0.mk (Kd.C_below HCu17.out hg)
  replace HXb1 := Aside0.mk (hg.at HXb1.out)
  replace HXb2 := Aside0.mk (hg.at HXb2.out)
  replace HXb12 := Aside0.mk (hg.at HXb12.out)
  replace HB := Aside0.mk (HB.out.trans (Below.mono hg HB.out.size))
  clear hg
  go_wp2_with fail
  go_ret
  exact ⟨rfl, HB.out⟩
end Go.Proofs.Ytinkbljjpafadaa.PAll
end

section
namespace Go.Proofs.Ytinkbljjpafadaa.PAll
open Go.RowKit Go.Proofs.YtinkbljjpafadaaW.PrintWords Go.Proofs.YtinkbljjpafadaaW.PrintLast Go.Proofs.YtinkbljjpafadaaW.PrintMore
attribute [local go_sem] max2_int min2_int max_two min_two max_three min_three max_four min_four   -- for this text's walks alone
set_option linter.unusedVariables false
set_option linter.unusedSimpArgs false
open Go.Proofs.YtinkbljjpafadaaTab in
def coerce_through.step (k : Nat) (l0 : List (S64)) (mem : ByteArray) (param : Int) (merged inn : Bool) (x : S35) (v : Val) : Option (Option Val) :=
 if (typedF l0 x.f1 mem param).2 = false then some (some v)
 else if x.f0 = inn then (coerce_caster_leaves.f k l0 merged x.f2 v.1 v.2.1 v.2.2.1 v.2.2.2.1 v.2.2.2.2 (typedF l0 x.f1 mem param).1).bind fun r => some (some r)
 else coerce_Enter.ent k l0 v.1 v.2.1 v.2.2.1 v.2.2.2.1 v.2.2.2.2 (typedF l0 x.f1 mem param).1 x.f2 merged
open Go.Proofs.YtinkbljjpafadaaTab in
def coerce_through.run (FO : S35 → Val → Option (Option Val)) : List (S35) → Val → Option (Option Val × Int)
 | [], v => some (some v, 0)
 | x :: r, v => (FO x v).bind fun o => match o with
  | some v' => coerce_through.run FO r v'
  | none => some (none, x.f2)
open Go.Proofs.YtinkbljjpafadaaTab in
theorem coerce_through.run_is (FO : S35 → Val → Option (Option Val)) : ∀ (l : List (S35)) (v : Val) (res : Option Val × Int), coerce_through.run FO l v = some res →
  Go.Proofs.YtinkbljjpafadaaTab.runT (fun x u => (FO x u).getD none) l v = res ∧ ∀ pre x u, pre ++ [x] <+: l → Go.Proofs.YtinkbljjpafadaaTab.okT (fun x u => (FO x u).getD none) pre v = some u → ∃ o, FO x u = some o
 | [], v, res, h => ⟨Option.some.inj h, fun pre x u hp _ => by have := hp.length_le; simp at this⟩
 | y :: r, v, res, h => by
  unfold coerce_through.run at h
  obtain ⟨o, ho, h⟩ := Option.bind_eq_some_iff.1 h
  have hF : (FO y v).getD none = o := by rw [ho]; rfl
  cases o with
  | none =>
   obtain rfl := Option.some.inj h
   refine ⟨Go.Proofs.YtinkbljjpafadaaTab.runT_none hF r, fun pre x u hp hu => ?_⟩
   cases pre with
   | nil =>
    obtain rfl : x = y := by
     have := hp.eq_of_length_le
     obtain ⟨z, hz⟩ := hp
     simp at hz
     exact hz.1
    obtain rfl := Option.some.inj hu
    exact ⟨_, ho⟩
   | cons q pre =>
    obtain rfl : q = y := by
     obtain ⟨z, hz⟩ := hp
     simp at hz
     exact hz.1
    exfalso
    have h' : pre.foldl (fun (o : Option Val) x => o.bind (fun u => (FO x u).getD none)) ((FO q v).getD none) = some u := hu
    rw [hF, Go.Proofs.YtinkbljjpafadaaTab.okT_none (fun x u => (FO x u).getD none)] at h'
    cases h'
  | some v' =>
   obtain ⟨h1, h2⟩ := coerce_through.run_is FO r v' res h
   refine ⟨(Go.Proofs.YtinkbljjpafadaaTab.runT_some hF r).trans h1, fun pre x u hp hu => ?_⟩
   cases pre with
   | nil =>
    obtain rfl : x = y := by
     obtain ⟨z, hz⟩ := hp
     simp at hz
     exact hz.1
    obtain rfl := Option.some.inj hu
    exact ⟨_, ho⟩
   | cons q pre =>
    obtain ⟨z, hz⟩ := hp
    simp only [List.cons_append, List.cons.injEq] at hz
    obtain ⟨rfl, hz⟩ := hz
    refine h2 pre x u ⟨z, hz⟩ ?_
    have h' : pre.foldl (fun (o : Option Val) x => o.bind (fun u => (FO x u).getD none)) ((FO q v).getD none) = some u := hu
    rw [hF] at h'
    exact h'
open Go.Proofs.YtinkbljjpafadaaTab in
theorem coerce_through.run_mono {FO FO' : S35 → Val → Option (Option Val)} (h : ∀ x v, LeO (FO x v) (FO' x v)) : ∀ l v, LeO (coerce_through.run FO l v) (coerce_through.run FO' l v)
 | [], v => LeO.refl _
 | x :: r, v => LeO.bind (h x v) (fun o => by
  cases o with
  | none => exact LeO.refl _
  | some v' => exact coerce_through.run_mono h r v')
open Go.Proofs.YtinkbljjpafadaaTab in
def coerce_through.fits (l0 : List (S64)) (l : List (S35)) : Bool := table_Methods.small l0 && decide (l.length < 4398046511104) && l.all (fun x => decide ((fieldsL l0 x.f1).length < 4398046511104))
open Go.Proofs.YtinkbljjpafadaaTab in
def coerce_through.f (k : Nat) (l0 : List (S64)) (a1_0 a1_1 a1_2 : Int) (a1_3 : ByteArray) (l1_4 : List (S35)) (a2 : ByteArray) (a3 : Int) (a4_0 a4_1 a4_2 : Int) (a4_3 : ByteArray) (l4_4 : List (S35)) (a5 a6 : Bool) : Option (Int × Int × Int × ByteArray × List (S35) × Int) :=
 (api_Layer_52.f l4_4).bind fun ch => if a1_0 = 7 then (if coerce_through.fits l0 l1_4 = true then (coerce_through.run (coerce_through.step k l0 a2 a3 a5 a6) (wl a6 l1_4) (a4_0, a4_1, a4_2, a4_3, ch)).bind fun r => some (coerce_Enter.out r.2 r.1) else none) else some (a4_0, a4_1, a4_2, a4_3, ch, 0)
open Go.Proofs.YtinkbljjpafadaaTab in
theorem coerce_through.step_mono (k : Nat) (l0 : List (S64)) (mem : ByteArray) (param : Int) (merged inn : Bool) (x : S35) (v : Val) : LeO (coerce_through.step k l0 mem param merged inn x v) (coerce_through.step (k + 1) l0 mem param merged inn x v) := by
 unfold coerce_through.step
 exact LeO.ite (LeO.refl _) (LeO.ite (LeO.bind (coerce_caster_leaves.mono _ _ _ _ _ _ _ _ _ k) (fun _ => LeO.refl _)) (coerce_Enter.ent_mono _ _ _ _ _ _ _ _ _ k))
theorem coerce_through.mono : ∀ l0 a1_0 a1_1 a1_2 a1_3 l1_4 a2 a3 a4_0 a4_1 a4_2 a4_3 l4_4 a5 a6 k, LeO (coerce_through.f k l0 a1_0 a1_1 a1_2 a1_3 l1_4 a2 a3 a4_0 a4_1 a4_2 a4_3 l4_4 a5 a6) (coerce_through.f (k + 1) l0 a1_0 a1_1 a1_2 a1_3 l1_4 a2 a3 a4_0 a4_1 a4_2 a4_3 l4_4 a5 a6) := by
 intro l0 a1_0 a1_1 a1_2 a1_3 l1_4 a2 a3 a4_0 a4_1 a4_2 a4_3 l4_4 a5 a6 k
 unfold coerce_through.f
 exact LeO.bind (LeO.refl _) (fun ch => LeO.ite (LeO.ite (LeO.bind (coerce_through.run_mono (fun x v => coerce_through.step_mono k l0 a2 a3 a5 a6 x v) _ _) (fun r => LeO.refl _)) (LeO.refl _)) (LeO.refl _))
open Go.Proofs.YtinkbljjpafadaaTab in
set_option maxHeartbeats 1000000 in
theorem coerce_through.calls (k : Nat) (A0 : Option Addr) (c0 : Nat) (l0 : List (S64)) (a1_0 a1_1 a1_2 : Int) (a1_3 : ByteArray) (A1_4 : Option Addr) (c1_4 : Nat) (l1_4 : List (S35)) (a2 : ByteArray) (a3 : Int) (a4_0 a4_1 a4_2 : Int) (a4_3 : ByteArray) (A4_4 : Option Addr) (c4_4 : Nat) (l4_4 : List (S35)) (a5 a6 : Bool) (r1 r2 r3 : Int) (r4 : ByteArray) (r5 : List (S35)) (r6 : Int) (w : World) (hr0 : Kd.C k64 w A0 l0.length l0) (hc0 : l0.length ≤ c0) (hr1_4 : Kd.C k35 w A1_4 l1_4.length l1_4) (hc1_4 : l1_4.length ≤ c1_4) (hr4_4 : Kd.C k35 w A4_4 l4_4.length l4_4) (hc4_4 : l4_4.length ≤ c4_4) (h : coerce_through.f k l0 a1_0 a1_1 a1_2 a1_3 l1_4 a2 a3 a4_0 a4_1 a4_2 a4_3 l4_4 a5 a6 = some (r1, r2, r3, r4, r5, r6)) :
  Calls Try.prog 37 #[.slice A0 l0.length c0, .agg #[.int .i64 a1_0, .int .i64 a1_1, .int .u64 a1_2, .string a1_3, .slice A1_4 l1_4.length c1_4], .string a2, .int .i64 a3, .agg #[.int .i64 a4_0, .int .i64 a4_1, .int .u64 a4_2, .string a4_3, .slice A4_4 l4_4.length c4_4], .bool a5, .bool a6] w fun e w' => ∃ v4_ : Value, e = .returned (.tuple #[.agg #[.int .i64 r1, .int .i64 r2, .int .u64 r3, .string r4, v4_], .int .i64 r6]) ∧ Kd.R k35 35 w' w.heap.size (fun _ => True) v4_ r5 ∧ Below w.heap.size w w' := by
 unfold coerce_through.f at h
 replace h := Option.bind_eq_some_iff.1 h
 obtain ⟨ch, hch, h⟩ := h
 obtain rfl := coerce_Enter.clone hch
 have hcl : ∀ w', Below w.heap.size w w' → Calls Try.prog 52 #[.slice A4_4 ch.length c4_4] w' fun e w'' => ∃ v, e = .returned v ∧ Kd.R k35 35 w'' w'.heap.size (fun _ => True) v ch ∧ Below w'.heap.size w' w'' :=
  fun w' hb => api_Layer_52.calls A4_4 c4_4 ch ch w' (Kd.C_below hr4_4 hb) hc4_4 hch
 by_cases h7 : a1_0 = 7
 ·
  rw [if_pos h7] at h
  by_cases hf : coerce_through.fits l0 l1_4 = true
  ·
   rw [if_pos hf] at h
   obtain ⟨res, hres, h⟩ := Option.bind_eq_some_iff.1 h
   obtain ⟨hT, hS⟩ := coerce_through.run_is _ _ _ _ hres
   unfold coerce_through.fits at hf
   simp only [Bool.and_eq_true, decide_eq_true_eq, List.all_eq_true] at hf
   obtain ⟨⟨hf1, hf2⟩, hf3⟩ := hf
   refine (through_calls A0 c0 l0.length a5 a6 a2 a3 a1_0 a1_1 a1_2 a1_3 A1_4 c1_4 l1_4.length a4_0 a4_1 a4_2 a4_3 A4_4 c4_4 ch.length res.2 res.1 w (fun w1 w' hb1 hb' hlt bv bo bi bt bm bp bg hnv hbo hv hcap => ?_)).mono ?_
   ·
    have hw' : Below w.heap.size w w' := hb1.trans (hb'.mono hb1.size)
    have := through1_calls A0 c0 l0 a5 a6 a2 a3 a1_0 a1_1 a1_2 a1_3 A1_4 c1_4 l1_4 a4_0 a4_1 a4_2 a4_3 A4_4 c4_4 ch (fun x u => (coerce_through.step k l0 a2 a3 a5 a6 x u).getD none) w' w.heap.size bv bo bi bt bm bp bg hw'.size hnv hbo hv hcap
     (fun w2 hb2 => Kd.C_below hr0 (hw'.trans hb2)) (fun w2 hb2 => Kd.C_below hr1_4 (hw'.trans hb2)) (fun w2 hb2 => hcl w2 (hw'.trans hb2)) (table_Methods.small_is hf1) hf3 hf2 h7 ?_
    ·
     rw [hT] at this
     exact this
    ·
     intro pre x u1 u2 u3 u4 ul hp hu
     obtain ⟨o, ho⟩ := hS pre x _ hp hu
     have hF : (coerce_through.step k l0 a2 a3 a5 a6 x (u1, u2, u3, u4, ul)).getD none = o := by rw [ho]; rfl
     unfold coerce_through.step at ho
     by_cases ht : (typedF l0 x.f1 a2 a3).2 = false
     ·
      rw [if_pos ht] at ho
      exact .inl ⟨ht, by rw [hF]; exact (Option.some.inj ho).symm⟩
     ·
      rw [if_neg ht] at ho
      refine .inr ⟨by simpa using ht, fun w2 A cc hb2 hC hcc => ?_⟩
      rw [hF]
      by_cases hx : x.f0 = a6
      ·
       rw [if_pos hx] at ho ⊢
       obtain ⟨r, hr, ho⟩ := Option.bind_eq_some_iff.1 ho
       obtain rfl := Option.some.inj ho
       obtain ⟨q1, q2, q3, q4, q5⟩ := r
       exact coerce_caster_leaves.calls k A0 c0 l0 a5 x.f2 u1 u2 u3 u4 A cc ul _ q1 q2 q3 q4 q5 w2 (Kd.C_below hr0 (hw'.trans hb2)) hc0 hC hcc hr
      ·
       rw [if_neg hx] at ho ⊢
       exact coerce_Enter.tells k A0 c0 l0 u1 u2 u3 u4 A cc ul _ x.f2 a5 o w2 (Kd.C_below hr0 (hw'.trans hb2)) hc0 hC hcc ho
   ·
    intro e w' hE
    obtain ⟨o, lab⟩ := res
    cases o with
    | none =>
     simp only [coerce_Enter.out, Option.some.injEq, Prod.mk.injEq] at h
     obtain ⟨rfl, rfl, rfl, rfl, rfl, rfl⟩ := h
     obtain ⟨rfl, hb⟩ := hE
     exact ⟨_, rfl, Kd.R_nil _ _ _ _ _, hb⟩
    | some o =>
     obtain ⟨x1, x2, x3, x4, x5⟩ := o
     simp only [coerce_Enter.out, Option.some.injEq, Prod.mk.injEq] at h
     obtain ⟨rfl, rfl, rfl, rfl, rfl, rfl⟩ := h
     obtain ⟨v, rfl, hR, hb⟩ := hE
     exact ⟨v, rfl, hR, hb⟩
  ·
   rw [if_neg hf] at h; cases h
 ·
  rw [if_neg h7] at h
  simp only [Option.some.injEq, Prod.mk.injEq] at h
  obtain ⟨rfl, rfl, rfl, rfl, rfl, rfl⟩ := h
  refine (through_calls A0 c0 l0.length a5 a6 a2 a3 a1_0 a1_1 a1_2 a1_3 A1_4 c1_4 l1_4.length a4_0 a4_1 a4_2 a4_3 A4_4 c4_4 ch.length 0 (some (a4_0, a4_1, a4_2, a4_3, ch)) w (fun w1 w' hb1 hb' hlt bv bo bi bt bm bp bg hnv hbo hv hcap => ?_)).mono ?_
  ·
   have hw' : Below w.heap.size w w' := hb1.trans (hb'.mono hb1.size)
   exact through1_idle A0 c0 l0 a5 a6 a2 a3 a1_0 a1_1 a1_2 a1_3 A1_4 c1_4 l1_4 a4_0 a4_1 a4_2 a4_3 A4_4 c4_4 ch w' w.heap.size bv bo bi bt bm bp bg hw'.size hnv hbo hv hcap (fun w2 hb2 => hcl w2 (hw'.trans hb2)) h7
  ·
   rintro e w' ⟨v, rfl, hR, hb⟩
   exact ⟨v, rfl, hR, hb⟩
end Go.Proofs.Ytinkbljjpafadaa.PAll
end
