/- Parts of the proof of one statement, packed: what the program's functions compute. No conditions. -/
import Derived.Test.YtinkbljjpafadaaKA1
import Derived.Test.YtinkbljjpafadaaKA4
import Derived.Test.YtinkbljjpafadaaKA2
import Derived.Test.YtinkbljjpafadaaKA3
section
namespace Go.Proofs.Ytinkbljjpafadaa.PAll
open Go.RowKit Go.Proofs.YtinkbljjpafadaaW.PrintWords Go.Proofs.YtinkbljjpafadaaW.PrintLast Go.Proofs.YtinkbljjpafadaaW.PrintMore
attribute [local go_sem] max2_int min2_int max_two min_two max_three min_three max_four min_four   -- for this text's walks alone
set_option linter.unusedVariables false
set_option linter.unusedSimpArgs false
def coerce_Inward.f (k : Nat) (l0 : List (S64)) (a1_0 : Int) (a1_1 : Int) (a1_2 : Int) (a1_3 : ByteArray) (l1_4 : List (S35)) (a2 : ByteArray) (a3 : Int) (a4_0 : Int) (a4_1 : Int) (a4_2 : Int) (a4_3 : ByteArray) (l4_4 : List (S35)) (a5 : Bool) : Option (Int × Int × Int × ByteArray × (List (S35)) × Int) := if a3 < 0 then ((coerce_through.f k l0 a1_0 a1_1 a1_2 a1_3 l1_4 a2 (-2) a4_0 a4_1 a4_2 a4_3 l4_4 a5 true).bind fun bt233 => (some (bt233.1, bt233.2.1, bt233.2.2.1, bt233.2.2.2.1, bt233.2.2.2.2.1, bt233.2.2.2.2.2))) else ((coerce_through.f k l0 a1_0 a1_1 a1_2 a1_3 l1_4 a2 a3 a4_0 a4_1 a4_2 a4_3 l4_4 a5 true).bind fun bt241 => (some (bt241.1, bt241.2.1, bt241.2.2.1, bt241.2.2.2.1, bt241.2.2.2.2.1, bt241.2.2.2.2.2)))
theorem coerce_Inward.mono : ∀ a0 a1 a2 a3 a4 a5 a6 a7 a8 a9 a10 a11 a12 a13 k, LeO (coerce_Inward.f k a0 a1 a2 a3 a4 a5 a6 a7 a8 a9 a10 a11 a12 a13) (coerce_Inward.f (k + 1) a0 a1 a2 a3 a4 a5 a6 a7 a8 a9 a10 a11 a12 a13) := by
 intro a0 a1 a2 a3 a4 a5 a6 a7 a8 a9 a10 a11 a12 a13 k
 unfold coerce_Inward.f
 repeat' first
   | (with_reducible exact coerce_through.mono _ _ _ _ _ _ _ _ _ _ _ _ _ _ _ _)
   | (with_reducible exact LeO.refl _)
   | (with_reducible exact LeO.none _)
   | (with_reducible refine LeO.ite ?_ ?_)
   | (with_reducible refine LeO.bind ?_ (fun _ => ?_))
   | exact coerce_through.mono _ _ _ _ _ _ _ _ _ _ _ _ _ _ _ _
   | exact LeO.none _
   | refine LeO.ite ?_ ?_
   | refine LeO.bind ?_ (fun _ => ?_)
set_option maxHeartbeats 8000000 in
set_option maxRecDepth 100000 in
theorem coerce_Inward.calls (k : Nat) (A0 : Option Addr) (c0 : Nat) (l0 : List (S64)) (a1_0 : Int) (a1_1 : Int) (a1_2 : Int) (a1_3 : ByteArray) (A1_4 : Option Addr) (c1_4 : Nat) (l1_4 : List (S35)) (a2 : ByteArray) (a3 : Int) (a4_0 : Int) (a4_1 : Int) (a4_2 : Int) (a4_3 : ByteArray) (A4_4 : Option Addr) (c4_4 : Nat) (l4_4 : List (S35)) (a5 : Bool) (r1 : Int) (r2 : Int) (r3 : Int) (r4 : ByteArray) (r5 : List (S35)) (r6 : Int) (w : World) (hr0 : Kd.C k64 w A0 l0.length l0) (hc0 : l0.length ≤ c0) (hr1_4 : Kd.C k35 w A1_4 l1_4.length l1_4) (hc1_4 : l1_4.length ≤ c1_4) (hr4_4 : Kd.C k35 w A4_4 l4_4.length l4_4) (hc4_4 : l4_4.length ≤ c4_4) (h : coerce_Inward.f k l0 a1_0 a1_1 a1_2 a1_3 l1_4 a2 a3 a4_0 a4_1 a4_2 a4_3 l4_4 a5 = some (r1, r2, r3, r4, r5, r6)) :
  Calls Try.prog 16 #[.slice A0 l0.length c0, .agg #[.int .i64 a1_0, .int .i64 a1_1, .int .u64 a1_2, .string a1_3, .slice A1_4 l1_4.length c1_4], .string a2, .int .i64 a3, .agg #[.int .i64 a4_0, .int .i64 a4_1, .int .u64 a4_2, .string a4_3, .slice A4_4 l4_4.length c4_4], .bool a5] w fun e w' => ∃ v4_ : Value, e = .returned (.tuple #[.agg #[.int .i64 r1, .int .i64 r2, .int .u64 r3, .string r4, v4_], .int .i64 r6]) ∧ Kd.R k35 35 w' w.heap.size (fun _ => True) v4_ r5 ∧ Below w.heap.size w w' := by
 have hu27 := Try.underlying27
 have HR0 := Aside0.mk hr0
 have HC0 := Aside0.mk hc0
 clear hr0 hc0
 have HR1_4 := Aside0.mk hr1_4
 have HC1_4 := Aside0.mk hc1_4
 clear hr1_4 hc1_4
 have HR4_4 := Aside0.mk hr4_4
 have HC4_4 := Aside0.mk hc4_4
 clear hr4_4 hc4_4
 have HB := Aside0.mk (Below.refl w.heap.size w)
 have H : (if a3 < 0 then ((coerce_through.f k l0 a1_0 a1_1 a1_2 a1_3 l1_4 a2 (-2) a4_0 a4_1 a4_2 a4_3 l4_4 a5 true).bind fun bt233 => (some (bt233.1, bt233.2.1, bt233.2.2.1, bt233.2.2.2.1, bt233.2.2.2.2.1, bt233.2.2.2.2.2))) else ((coerce_through.f k l0 a1_0 a1_1 a1_2 a1_3 l1_4 a2 a3 a4_0 a4_1 a4_2 a4_3 l4_4 a5 true).bind fun bt241 => (some (bt241.1, bt241.2.1, bt241.2.2.1, bt241.2.2.2.1, bt241.2.2.2.2.1, bt241.2.2.2.2.2)))) = some (r1, r2, r3, r4, r5, r6) := h
 clear h
 by_cases c7 : a3 < 0
 ·
  rw [if_pos c7] at H
  have c7b0 : decide (a3 < 0) = true := decide_eq_true c7
  clear c7
  replace H := Option.bind_eq_some_iff.mp H
  obtain ⟨⟨t233, t234, t235, t236, t237, t240⟩, A80, H⟩ := H
  replace H : (some (t233, t234, t235, t236, t237, t240)) = some (r1, r2, r3, r4, r5, r6) := H
  have A8 := Aside0.mk A80
  clear A80
  simp only [Option.some.injEq, Prod.mk.injEq] at H
  obtain ⟨rfl, rfl, rfl, rfl, rfl, rfl⟩ := H
  go_enter Try.func16, Try.ntmps16
  go_wp2_with (first | ((with_reducible refine gate_dst (N := 7) rfl ?_); refine box_event ?hg (N := 7) ?hd (cs := #[.int .i64 a1_0, .int .i64 a1_1, .int .u64 a1_2, .string a1_3, .slice A1_4 l1_4.length c1_4]) (t := 27) ?hr ?_; (case hd => rfl); (case hg => rfl); (case hr => first | (go_simp; done) | (go_simp; rfl)); intro gb230 hg w9 hbox hb; have n0_ := Aside0.mk (below_step (by repeat (first | (with_reducible first | exact HB.out | apply below_alloc | apply pw_below_drewN | apply below_drew1) | exact HB.out)) hb); have n1_ := Aside0.mk (hbox); have n2_ := Aside0.mk ((by rw [hg]; exact (below_size (by repeat (first | (with_reducible first | exact HB.out | apply below_alloc | apply pw_below_drewN | apply below_drew1) | exact HB.out))) : w.heap.size ≤ gb230)); have n3_ := Aside0.mk ((by rw [hg]; exact (below_size (by repeat (first | (with_reducible first | exact HB.out | apply below_alloc | apply pw_below_drewN | apply below_drew1) | exact HB.out))) : w.heap.size ≤ gb230)); clear HB; have HB := n0_; have BK230 := n1_; have GW230 := n2_; have GE230 := n3_; clear n0_ n1_ n2_ n3_; clear hb hbox hg) | ((with_reducible refine gate_dst (N := 10) rfl ?_); refine box_event ?hg (N := 10) ?hd (cs := #[.int .i64 a4_0, .int .i64 a4_1, .int .u64 a4_2, .string a4_3, .slice A4_4 l4_4.length c4_4]) (t := 27) ?hr ?_; (case hd => rfl); (case hg => rfl); (case hr => first | (go_simp; done) | (go_simp; rfl)); intro gb231 hg w10 hbox hb; have n0_ := Aside0.mk (blk_below (g := gb230) (o := .cells #[.int .i64 a1_0, .int .i64 a1_1, .int .u64 a1_2, .string a1_3, .slice A1_4 l1_4.length c1_4] 27 (0, 0)) (by (with_reducible repeat (first | refine blk_drewN ?_ _ | refine blk_drew ?_ | refine blk_alloc ?_ _)); exact BK230.out) hb); have n1_ := Aside0.mk (below_step (by repeat (first | (with_reducible first | exact HB.out | apply below_alloc | apply pw_below_drewN | apply below_drew1 | refine below_set ?_ GE230.out) | exact HB.out)) hb); have n2_ := Aside0.mk (hbox); have n3_ := Aside0.mk ((by rw [hg]; exact (below_size (by repeat (first | (with_reducible first | exact HB.out | apply below_alloc | apply pw_below_drewN | apply below_drew1 | refine below_set ?_ GE230.out) | exact HB.out))) : w.heap.size ≤ gb231)); have n4_ := Aside0.mk ((by rw [hg]; exact (below_size (by repeat (first | (with_reducible first | exact HB.out | apply below_alloc | apply pw_below_drewN | apply below_drew1 | refine below_set ?_ GE230.out) | exact HB.out))) : w.heap.size ≤ gb231)); have n5_ := Aside0.mk ((by rw [hg]; exact Nat.ne_of_lt (blk_lt (g := gb230) (o := .cells #[.int .i64 a1_0, .int .i64 a1_1, .int .u64 a1_2, .string a1_3, .slice A1_4 l1_4.length c1_4] 27 (0, 0)) (by (with_reducible repeat (first | refine blk_drewN ?_ _ | refine blk_drew ?_ | refine blk_alloc ?_ _)); exact BK230.out)) : gb230 ≠ gb231)); have n6_ := Aside0.mk ((by rw [hg]; exact Nat.ne_of_gt (blk_lt (g := gb230) (o := .cells #[.int .i64 a1_0, .int .i64 a1_1, .int .u64 a1_2, .string a1_3, .slice A1_4 l1_4.length c1_4] 27 (0, 0)) (by (with_reducible repeat (first | refine blk_drewN ?_ _ | refine blk_drew ?_ | refine blk_alloc ?_ _)); exact BK230.out)) : gb231 ≠ gb230)); clear BK230; clear HB; have BK230 := n0_; have HB := n1_; have BK231 := n2_; have GW231 := n3_; have GE231 := n4_; have NB230_231 := n5_; have NB231_230 := n6_; clear n0_ n1_ n2_ n3_ n4_ n5_ n6_; clear hb hbox hg) | ((with_reducible refine gate_dst (N := 12) rfl ?_); refine box_event ?hg (N := 12) ?hd (cs := #[.int .i64 0, .int .i64 0, .int .u64 0, .string (⟨#[]⟩ : ByteArray), .slice none 0 0]) (t := 27) ?hr ?_; (case hd => rfl); (case hg => rfl); (case hr => first | (go_simp; done) | (go_simp; rfl)); intro gb232 hg w11 hbox hb; have n0_ := Aside0.mk (blk_below (g := gb230) (o := .cells #[.int .i64 a1_0, .int .i64 a1_1, .int .u64 a1_2, .string a1_3, .slice A1_4 l1_4.length c1_4] 27 (0, 0)) (by (with_reducible repeat (first | refine blk_drewN ?_ _ | refine blk_drew ?_ | refine blk_alloc ?_ _)); exact BK230.out) hb); have n1_ := Aside0.mk (blk_below (g := gb231) (o := .cells #[.int .i64 a4_0, .int .i64 a4_1, .int .u64 a4_2, .string a4_3, .slice A4_4 l4_4.length c4_4] 27 (0, 0)) (by (with_reducible repeat (first | refine blk_drewN ?_ _ | refine blk_drew ?_ | refine blk_alloc ?_ _)); exact BK231.out) hb); have n2_ := Aside0.mk (below_step (by repeat (first | (with_reducible first | exact HB.out | apply below_alloc | apply pw_below_drewN | apply below_drew1 | refine below_set ?_ GE230.out | refine below_set ?_ GE231.out) | exact HB.out)) hb); have n3_ := Aside0.mk (hbox); have n4_ := Aside0.mk ((by rw [hg]; exact (below_size (by repeat (first | (with_reducible first | exact HB.out | apply below_alloc | apply pw_below_drewN | apply below_drew1 | refine below_set ?_ GE230.out | refine below_set ?_ GE231.out) | exact HB.out))) : w.heap.size ≤ gb232)); have n5_ := Aside0.mk ((by rw [hg]; exact (below_size (by repeat (first | (with_reducible first | exact HB.out | apply below_alloc | apply pw_below_drewN | apply below_drew1 | refine below_set ?_ GE230.out | refine below_set ?_ GE231.out) | exact HB.out))) : w.heap.size ≤ gb232)); have n6_ := Aside0.mk ((by rw [hg]; exact Nat.ne_of_lt (blk_lt (g := gb230) (o := .cells #[.int .i64 a1_0, .int .i64 a1_1, .int .u64 a1_2, .string a1_3, .slice A1_4 l1_4.length c1_4] 27 (0, 0)) (by (with_reducible repeat (first | refine blk_drewN ?_ _ | refine blk_drew ?_ | refine blk_alloc ?_ _)); exact BK230.out)) : gb230 ≠ gb232)); have n7_ := Aside0.mk ((by rw [hg]; exact Nat.ne_of_gt (blk_lt (g := gb230) (o := .cells #[.int .i64 a1_0, .int .i64 a1_1, .int .u64 a1_2, .string a1_3, .slice A1_4 l1_4.length c1_4] 27 (0, 0)) (by (with_reducible repeat (first | refine blk_drewN ?_ _ | refine blk_drew ?_ | refine blk_alloc ?_ _)); exact BK230.out)) : gb232 ≠ gb230)); have n8_ := Aside0.mk ((by rw [hg]; exact Nat.ne_of_lt (blk_lt (g := gb231) (o := .cells #[.int .i64 a4_0, .int .i64 a4_1, .int .u64 a4_2, .string a4_3, .slice A4_4 l4_4.length c4_4] 27 (0, 0)) (by (with_reducible repeat (first | refine blk_drewN ?_ _ | refine blk_drew ?_ | refine blk_alloc ?_ _)); exact BK231.out)) : gb231 ≠ gb232)); have n9_ := Aside0.mk ((by rw [hg]; exact Nat.ne_of_gt (blk_lt (g := gb231) (o := .cells #[.int .i64 a4_0, .int .i64 a4_1, .int .u64 a4_2, .string a4_3, .slice A4_4 l4_4.length c4_4] 27 (0, 0)) (by (with_reducible repeat (first | refine blk_drewN ?_ _ | refine blk_drew ?_ | refine blk_alloc ?_ _)); exact BK231.out)) : gb232 ≠ gb231)); clear BK230; clear BK231; clear HB; have BK230 := n0_; have BK231 := n1_; have HB := n2_; have BK232 := n3_; have GW232 := n4_; have GE232 := n5_; have NB230_232 := n6_; have NB232_230 := n7_; have NB231_232 := n8_; have NB232_231 := n9_; clear n0_ n1_ n2_ n3_ n4_ n5_ n6_ n7_ n8_ n9_; clear hb hbox hg; have hnb12 := NB230_231.out; have hnc12 := NB231_230.out; have hnb13 := NB230_232.out; have hnc13 := NB232_230.out; have hcz14_0 : w11.cell? ⟨gb230, 0, none⟩ = some (.int .i64 a1_0) := (blk_cell BK230.out 0).trans rfl; have hcz14_1 : w11.cell? ⟨gb230, 1, none⟩ = some (.int .i64 a1_1) := (blk_cell BK230.out 1).trans rfl; have hcz14_2 : w11.cell? ⟨gb230, 2, none⟩ = some (.int .u64 a1_2) := (blk_cell BK230.out 2).trans rfl; have hcz14_3 : w11.cell? ⟨gb230, 3, none⟩ = some (.string a1_3) := (blk_cell BK230.out 3).trans rfl; have hcz14_4 : w11.cell? ⟨gb230, 4, none⟩ = some (.slice A1_4 l1_4.length c1_4) := (blk_cell BK230.out 4).trans rfl; have hfz14_0 := blk_frozen BK230.out 0; have hfz14_1 := blk_frozen BK230.out 1; have hfz14_2 := blk_frozen BK230.out 2; have hfz14_3 := blk_frozen BK230.out 3; have hfz14_4 := blk_frozen BK230.out 4; have hnb15 := NB231_232.out; have hnc15 := NB232_231.out; have hcz16_0 : w11.cell? ⟨gb231, 0, none⟩ = some (.int .i64 a4_0) := (blk_cell BK231.out 0).trans rfl; have hcz16_1 : w11.cell? ⟨gb231, 1, none⟩ = some (.int .i64 a4_1) := (blk_cell BK231.out 1).trans rfl; have hcz16_2 : w11.cell? ⟨gb231, 2, none⟩ = some (.int .u64 a4_2) := (blk_cell BK231.out 2).trans rfl; have hcz16_3 : w11.cell? ⟨gb231, 3, none⟩ = some (.string a4_3) := (blk_cell BK231.out 3).trans rfl; have hcz16_4 : w11.cell? ⟨gb231, 4, none⟩ = some (.slice A4_4 l4_4.length c4_4) := (blk_cell BK231.out 4).trans rfl; have hfz16_0 := blk_frozen BK231.out 0; have hfz16_1 := blk_frozen BK231.out 1; have hfz16_2 := blk_frozen BK231.out 2; have hfz16_3 := blk_frozen BK231.out 3; have hfz16_4 := blk_frozen BK231.out 4) | ((with_reducible refine gate_callee (f := 37) rfl ?_); refine goesL_ (some 22) rfl rfl Try.func37 (by kernel_rfl) rfl #[.slice A0 l0.length c0, .agg #[.int .i64 a1_0, .int .i64 a1_1, .int .u64 a1_2, .string a1_3, .slice A1_4 l1_4.length c1_4], .string a2, .int .i64 (-2), .agg #[.int .i64 a4_0, .int .i64 a4_1, .int .u64 a4_2, .string a4_3, .slice A4_4 l4_4.length c4_4], .bool a5, .bool true] rfl (by (try simp only [List.map_toArray, List.map_cons, List.map_nil]); first | done | rfl | (simp only [List.length_drop, List.length_take]; rfl)) ?_; (with_reducible refine (coerce_through.calls k _ _ l0 a1_0 a1_1 a1_2 a1_3 _ _ l1_4 a2 (-2) a4_0 a4_1 a4_2 a4_3 _ _ l4_4 a5 true t233 t234 t235 t236 t237 t240 _ ?side1 ?side2 ?side3 ?side4 ?side5 ?side6 A8.out).mono ?_); (case side1 => repeat (first | exact (Kd.C_below HR0.out HB.out) | (with_reducible refine Kd.C_alloc ?_ _) | (with_reducible refine Kd.C_drewN ?_ _) | (with_reducible refine Kd.C_drew ?_))); (case side2 => exact HC0.out); (case side3 => repeat (first | exact (Kd.C_below HR1_4.out HB.out) | (with_reducible refine Kd.C_alloc ?_ _) | (with_reducible refine Kd.C_drewN ?_ _) | (with_reducible refine Kd.C_drew ?_))); (case side4 => exact HC1_4.out); (case side5 => repeat (first | exact (Kd.C_below HR4_4.out HB.out) | (with_reducible refine Kd.C_alloc ?_ _) | (with_reducible refine Kd.C_drewN ?_ _) | (with_reducible refine Kd.C_drew ?_))); (case side6 => exact HC4_4.out); rintro e w17 ⟨v238, rfl, ho0, hb⟩; refine ⟨_, rfl, ?_⟩; have n0_ := Aside0.mk (Kd.R_lower ho0 (below_size (by repeat (first | (with_reducible first | exact HB.out | apply below_alloc | apply pw_below_drewN | apply below_drew1 | refine below_set ?_ GE230.out | refine below_set ?_ GE231.out | refine below_set ?_ GE232.out) | exact HB.out)))); have n1_ := Aside0.mk (blk_below (g := gb230) (o := .cells #[.int .i64 a1_0, .int .i64 a1_1, .int .u64 a1_2, .string a1_3, .slice A1_4 l1_4.length c1_4] 27 (0, 0)) (by (with_reducible repeat (first | refine blk_drewN ?_ _ | refine blk_drew ?_ | refine blk_alloc ?_ _)); exact BK230.out) hb); have n2_ := Aside0.mk (blk_below (g := gb231) (o := .cells #[.int .i64 a4_0, .int .i64 a4_1, .int .u64 a4_2, .string a4_3, .slice A4_4 l4_4.length c4_4] 27 (0, 0)) (by (with_reducible repeat (first | refine blk_drewN ?_ _ | refine blk_drew ?_ | refine blk_alloc ?_ _)); exact BK231.out) hb); have n3_ := Aside0.mk (blk_below (g := gb232) (o := .cells #[.int .i64 0, .int .i64 0, .int .u64 0, .string (⟨#[]⟩ : ByteArray), .slice none 0 0] 27 (0, 0)) (by (with_reducible repeat (first | refine blk_drewN ?_ _ | refine blk_drew ?_ | refine blk_alloc ?_ _)); exact BK232.out) hb); have n4_ := Aside0.mk (below_step (by repeat (first | (with_reducible first | exact HB.out | apply below_alloc | apply pw_below_drewN | apply below_drew1 | refine below_set ?_ GE230.out | refine below_set ?_ GE231.out | refine below_set ?_ GE232.out) | exact HB.out)) hb); clear BK230; clear BK231; clear BK232; clear HB; have HO239 := n0_; have BK230 := n1_; have BK231 := n2_; have BK232 := n3_; have HB := n4_; clear n0_ n1_ n2_ n3_ n4_; (try clear hb); (try clear hb2); (try clear hk); (try clear hi); (try clear ho0); have hcz18_0 : w17.cell? ⟨gb232, 0, none⟩ = some (.int .i64 0) := (blk_cell BK232.out 0).trans rfl; have hcz18_1 : w17.cell? ⟨gb232, 1, none⟩ = some (.int .i64 0) := (blk_cell BK232.out 1).trans rfl; have hcz18_2 : w17.cell? ⟨gb232, 2, none⟩ = some (.int .u64 0) := (blk_cell BK232.out 2).trans rfl; have hcz18_3 : w17.cell? ⟨gb232, 3, none⟩ = some (.string (⟨#[]⟩ : ByteArray)) := (blk_cell BK232.out 3).trans rfl; have hcz18_4 : w17.cell? ⟨gb232, 4, none⟩ = some (.slice none 0 0) := (blk_cell BK232.out 4).trans rfl; have hfz18_0 := blk_frozen BK232.out 0; have hfz18_1 := blk_frozen BK232.out 1; have hfz18_2 := blk_frozen BK232.out 2; have hfz18_3 := blk_frozen BK232.out 3; have hfz18_4 := blk_frozen BK232.out 4; obtain ⟨Ao19, co19, eo19⟩ := Kd.R_slice HO239.out; subst eo19))
  refine bodyPost_ret (results_ct rfl _ _ gb232 27 #[.int .i64 t233, .int .i64 t234, .int .u64 t235, .string t236, .slice Ao19 t237.length co19] (0, 0) _ rfl (by (with_reducible repeat (first | refine blk_drewN ?_ _ | refine blk_drew ?_ | refine blk_alloc ?_ _)); refine blk_put (cs := #[.int .i64 t233, .int .i64 t234, .int .u64 t235, .string t236, .slice none 0 0]) ?_ 4 _ rfl; (with_reducible repeat (first | refine blk_drewN ?_ _ | refine blk_drew ?_ | refine blk_alloc ?_ _)); refine blk_put (cs := #[.int .i64 t233, .int .i64 t234, .int .u64 t235, .string (⟨#[]⟩ : ByteArray), .slice none 0 0]) ?_ 3 _ rfl; (with_reducible repeat (first | refine blk_drewN ?_ _ | refine blk_drew ?_ | refine blk_alloc ?_ _)); refine blk_put (cs := #[.int .i64 t233, .int .i64 t234, .int .u64 0, .string (⟨#[]⟩ : ByteArray), .slice none 0 0]) ?_ 2 _ rfl; (with_reducible repeat (first | refine blk_drewN ?_ _ | refine blk_drew ?_ | refine blk_alloc ?_ _)); refine blk_put (cs := #[.int .i64 t233, .int .i64 0, .int .u64 0, .string (⟨#[]⟩ : ByteArray), .slice none 0 0]) ?_ 1 _ rfl; (with_reducible repeat (first | refine blk_drewN ?_ _ | refine blk_drew ?_ | refine blk_alloc ?_ _)); refine blk_put (cs := #[.int .i64 0, .int .i64 0, .int .u64 0, .string (⟨#[]⟩ : ByteArray), .slice none 0 0]) ?_ 0 _ rfl; (with_reducible repeat (first | refine blk_drewN ?_ _ | refine blk_drew ?_ | refine blk_alloc ?_ _)); exact BK232.out) Try.underlying27 rfl (by kernel_rfl)) rfl ?_
  exact ⟨_, by first | rfl | (simp [errW_none, errW_some] <;> rfl) | (simp [*, errW_none, errW_some] <;> rfl), by (with_reducible repeat (first | apply Kd.R_alloc | apply Kd.R_drewN | apply Kd.R_drew)); exact Kd.R_mono (Kd.R_far (p := ⟨gb232, 4, none⟩) (Kd.R_far (p := ⟨gb232, 3, none⟩) (Kd.R_far (p := ⟨gb232, 2, none⟩) (Kd.R_far (p := ⟨gb232, 1, none⟩) (Kd.R_far (p := ⟨gb232, 0, none⟩) (Kd.R_types HO239.out BK232.out (by decide)) (fun _ hk => hk.2) (.int .i64 t233)) (fun _ hk => hk.2) (.int .i64 t234)) (fun _ hk => hk.2) (.int .u64 t235)) (fun _ hk => hk.2) (.string t236)) (fun _ hk => hk.2) (.slice Ao19 t237.length co19)) (fun _ hk => trivial), by repeat (first | (with_reducible first | exact HB.out | apply below_alloc | apply pw_below_drewN | apply below_drew1 | refine below_set ?_ GE230.out | refine below_set ?_ GE231.out | refine below_set ?_ GE232.out) | exact HB.out)⟩
 ·
  rw [if_neg c7] at H
  have c7b0 : decide (a3 < 0) = false := decide_eq_false c7
  clear c7
  replace H := Option.bind_eq_some_iff.mp H
  obtain ⟨⟨t241, t242, t243, t244, t245, t248⟩, A200, H⟩ := H
  replace H : (some (t241, t242, t243, t244, t245, t248)) = some (r1, r2, r3, r4, r5, r6) := H
  have A20 := Aside0.mk A200
  clear A200
  simp only [Option.some.injEq, Prod.mk.injEq] at H
  obtain ⟨rfl, rfl, rfl, rfl, rfl, rfl⟩ := H
  go_enter Try.func16, Try.ntmps16
  go_wp2_with (first | ((with_reducible refine gate_dst (N := 7) rfl ?_); refine box_event ?hg (N := 7) ?hd (cs := #[.int .i64 a1_0, .int .i64 a1_1, .int .u64 a1_2, .string a1_3, .slice A1_4 l1_4.length c1_4]) (t := 27) ?hr ?_; (case hd => rfl); (case hg => rfl); (case hr => first | (go_simp; done) | (go_simp; rfl)); intro gb230 hg w21 hbox hb; have n0_ := Aside0.mk (below_step (by repeat (first | (with_reducible first | exact HB.out | apply below_alloc | apply pw_below_drewN | apply below_drew1) | exact HB.out)) hb); have n1_ := Aside0.mk (hbox); have n2_ := Aside0.mk ((by rw [hg]; exact (below_size (by repeat (first | (with_reducible first | exact HB.out | apply below_alloc | apply pw_below_drewN | apply below_drew1) | exact HB.out))) : w.heap.size ≤ gb230)); have n3_ := Aside0.mk ((by rw [hg]; exact (below_size (by repeat (first | (with_reducible first | exact HB.out | apply below_alloc | apply pw_below_drewN | apply below_drew1) | exact HB.out))) : w.heap.size ≤ gb230)); clear HB; have HB := n0_; have BK230 := n1_; have GW230 := n2_; have GE230 := n3_; clear n0_ n1_ n2_ n3_; clear hb hbox hg) | ((with_reducible refine gate_dst (N := 10) rfl ?_); refine box_event ?hg (N := 10) ?hd (cs := #[.int .i64 a4_0, .int .i64 a4_1, .int .u64 a4_2, .string a4_3, .slice A4_4 l4_4.length c4_4]) (t := 27) ?hr ?_; (case hd => rfl); (case hg => rfl); (case hr => first | (go_simp; done) | (go_simp; rfl)); intro gb231 hg w22 hbox hb; have n0_ := Aside0.mk (blk_below (g := gb230) (o := .cells #[.int .i64 a1_0, .int .i64 a1_1, .int .u64 a1_2, .string a1_3, .slice A1_4 l1_4.length c1_4] 27 (0, 0)) (by (with_reducible repeat (first | refine blk_drewN ?_ _ | refine blk_drew ?_ | refine blk_alloc ?_ _)); exact BK230.out) hb); have n1_ := Aside0.mk (below_step (by repeat (first | (with_reducible first | exact HB.out | apply below_alloc | apply pw_below_drewN | apply below_drew1 | refine below_set ?_ GE230.out) | exact HB.out)) hb); have n2_ := Aside0.mk (hbox); have n3_ := Aside0.mk ((by rw [hg]; exact (below_size (by repeat (first | (with_reducible first | exact HB.out | apply below_alloc | apply pw_below_drewN | apply below_drew1 | refine below_set ?_ GE230.out) | exact HB.out))) : w.heap.size ≤ gb231)); have n4_ := Aside0.mk ((by rw [hg]; exact (below_size (by repeat (first | (with_reducible first | exact HB.out | apply below_alloc | apply pw_below_drewN | apply below_drew1 | refine below_set ?_ GE230.out) | exact HB.out))) : w.heap.size ≤ gb231)); have n5_ := Aside0.mk ((by rw [hg]; exact Nat.ne_of_lt (blk_lt (g := gb230) (o := .cells #[.int .i64 a1_0, .int .i64 a1_1, .int .u64 a1_2, .string a1_3, .slice A1_4 l1_4.length c1_4] 27 (0, 0)) (by (with_reducible repeat (first | refine blk_drewN ?_ _ | refine blk_drew ?_ | refine blk_alloc ?_ _)); exact BK230.out)) : gb230 ≠ gb231)); have n6_ := Aside0.mk ((by rw [hg]; exact Nat.ne_of_gt (blk_lt (g := gb230) (o := .cells #[.int .i64 a1_0, .int .i64 a1_1, .int .u64 a1_2, .string a1_3, .slice A1_4 l1_4.length c1_4] 27 (0, 0)) (by (with_reducible repeat (first | refine blk_drewN ?_ _ | refine blk_drew ?_ | refine blk_alloc ?_ _)); exact BK230.out)) : gb231 ≠ gb230)); clear BK230; clear HB; have BK230 := n0_; have HB := n1_; have BK231 := n2_; have GW231 := n3_; have GE231 := n4_; have NB230_231 := n5_; have NB231_230 := n6_; clear n0_ n1_ n2_ n3_ n4_ n5_ n6_; clear hb hbox hg) | ((with_reducible refine gate_dst (N := 12) rfl ?_); refine box_event ?hg (N := 12) ?hd (cs := #[.int .i64 0, .int .i64 0, .int .u64 0, .string (⟨#[]⟩ : ByteArray), .slice none 0 0]) (t := 27) ?hr ?_; (case hd => rfl); (case hg => rfl); (case hr => first | (go_simp; done) | (go_simp; rfl)); intro gb232 hg w23 hbox hb; have n0_ := Aside0.mk (blk_below (g := gb230) (o := .cells #[.int .i64 a1_0, .int .i64 a1_1, .int .u64 a1_2, .string a1_3, .slice A1_4 l1_4.length c1_4] 27 (0, 0)) (by (with_reducible repeat (first | refine blk_drewN ?_ _ | refine blk_drew ?_ | refine blk_alloc ?_ _)); exact BK230.out) hb); have n1_ := Aside0.mk (blk_below (g := gb231) (o := .cells #[.int .i64 a4_0, .int .i64 a4_1, .int .u64 a4_2, .string a4_3, .slice A4_4 l4_4.length c4_4] 27 (0, 0)) (by (with_reducible repeat (first | refine blk_drewN ?_ _ | refine blk_drew ?_ | refine blk_alloc ?_ _)); exact BK231.out) hb); have n2_ := Aside0.mk (below_step (by repeat (first | (with_reducible first | exact HB.out | apply below_alloc | apply pw_below_drewN | apply below_drew1 | refine below_set ?_ GE230.out | refine below_set ?_ GE231.out) | exact HB.out)) hb); have n3_ := Aside0.mk (hbox); have n4_ := Aside0.mk ((by rw [hg]; exact (below_size (by repeat (first | (with_reducible first | exact HB.out | apply below_alloc | apply pw_below_drewN | apply below_drew1 | refine below_set ?_ GE230.out | refine below_set ?_ GE231.out) | exact HB.out))) : w.heap.size ≤ gb232)); have n5_ := Aside0.mk ((by rw [hg]; exact (below_size (by repeat (first | (with_reducible first | exact HB.out | apply below_alloc | apply pw_below_drewN | apply below_drew1 | refine below_set ?_ GE230.out | refine below_set ?_ GE231.out) | exact HB.out))) : w.heap.size ≤ gb232)); have n6_ := Aside0.mk ((by rw [hg]; exact Nat.ne_of_lt (blk_lt (g := gb230) (o := .cells #[.int .i64 a1_0, .int .i64 a1_1, .int .u64 a1_2, .string a1_3, .slice A1_4 l1_4.length c1_4] 27 (0, 0)) (by (with_reducible repeat (first | refine blk_drewN ?_ _ | refine blk_drew ?_ | refine blk_alloc ?_ _)); exact BK230.out)) : gb230 ≠ gb232)); have n7_ := Aside0.mk ((by rw [hg]; exact Nat.ne_of_gt (blk_lt (g := gb230) (o := .cells #[.int .i64 a1_0, .int .i64 a1_1, .int .u64 a1_2, .string a1_3, .slice A1_4 l1_4.length c1_4] 27 (0, 0)) (by (with_reducible repeat (first | refine blk_drewN ?_ _ | refine blk_drew ?_ | refine blk_alloc ?_ _)); exact BK230.out)) : gb232 ≠ gb230)); have n8_ := Aside0.mk ((by rw [hg]; exact Nat.ne_of_lt (blk_lt (g := gb231) (o := .cells #[.int .i64 a4_0, .int .i64 a4_1, .int .u64 a4_2, .string a4_3, .slice A4_4 l4_4.length c4_4] 27 (0, 0)) (by (with_reducible repeat (first | refine blk_drewN ?_ _ | refine blk_drew ?_ | refine blk_alloc ?_ _)); exact BK231.out)) : gb231 ≠ gb232)); have n9_ := Aside0.mk ((by rw [hg]; exact Nat.ne_of_gt (blk_lt (g := gb231) (o := .cells #[.int .i64 a4_0, .int .i64 a4_1, .int .u64 a4_2, .string a4_3, .slice A4_4 l4_4.length c4_4] 27 (0, 0)) (by (with_reducible repeat (first | refine blk_drewN ?_ _ | refine blk_drew ?_ | refine blk_alloc ?_ _)); exact BK231.out)) : gb232 ≠ gb231)); clear BK230; clear BK231; clear HB; have BK230 := n0_; have BK231 := n1_; have HB := n2_; have BK232 := n3_; have GW232 := n4_; have GE232 := n5_; have NB230_232 := n6_; have NB232_230 := n7_; have NB231_232 := n8_; have NB232_231 := n9_; clear n0_ n1_ n2_ n3_ n4_ n5_ n6_ n7_ n8_ n9_; clear hb hbox hg; have hnb24 := NB230_231.out; have hnc24 := NB231_230.out; have hnb25 := NB230_232.out; have hnc25 := NB232_230.out; have hcz26_0 : w23.cell? ⟨gb230, 0, none⟩ = some (.int .i64 a1_0) := (blk_cell BK230.out 0).trans rfl; have hcz26_1 : w23.cell? ⟨gb230, 1, none⟩ = some (.int .i64 a1_1) := (blk_cell BK230.out 1).trans rfl; have hcz26_2 : w23.cell? ⟨gb230, 2, none⟩ = some (.int .u64 a1_2) := (blk_cell BK230.out 2).trans rfl; have hcz26_3 : w23.cell? ⟨gb230, 3, none⟩ = some (.string a1_3) := (blk_cell BK230.out 3).trans rfl; have hcz26_4 : w23.cell? ⟨gb230, 4, none⟩ = some (.slice A1_4 l1_4.length c1_4) := (blk_cell BK230.out 4).trans rfl; have hfz26_0 := blk_frozen BK230.out 0; have hfz26_1 := blk_frozen BK230.out 1; have hfz26_2 := blk_frozen BK230.out 2; have hfz26_3 := blk_frozen BK230.out 3; have hfz26_4 := blk_frozen BK230.out 4; have hnb27 := NB231_232.out; have hnc27 := NB232_231.out; have hcz28_0 : w23.cell? ⟨gb231, 0, none⟩ = some (.int .i64 a4_0) := (blk_cell BK231.out 0).trans rfl; have hcz28_1 : w23.cell? ⟨gb231, 1, none⟩ = some (.int .i64 a4_1) := (blk_cell BK231.out 1).trans rfl; have hcz28_2 : w23.cell? ⟨gb231, 2, none⟩ = some (.int .u64 a4_2) := (blk_cell BK231.out 2).trans rfl; have hcz28_3 : w23.cell? ⟨gb231, 3, none⟩ = some (.string a4_3) := (blk_cell BK231.out 3).trans rfl; have hcz28_4 : w23.cell? ⟨gb231, 4, none⟩ = some (.slice A4_4 l4_4.length c4_4) := (blk_cell BK231.out 4).trans rfl; have hfz28_0 := blk_frozen BK231.out 0; have hfz28_1 := blk_frozen BK231.out 1; have hfz28_2 := blk_frozen BK231.out 2; have hfz28_3 := blk_frozen BK231.out 3; have hfz28_4 := blk_frozen BK231.out 4) | ((with_reducible refine gate_callee (f := 37) rfl ?_); refine goesL_ (some 22) rfl rfl Try.func37 (by kernel_rfl) rfl #[.slice A0 l0.length c0, .agg #[.int .i64 a1_0, .int .i64 a1_1, .int .u64 a1_2, .string a1_3, .slice A1_4 l1_4.length c1_4], .string a2, .int .i64 a3, .agg #[.int .i64 a4_0, .int .i64 a4_1, .int .u64 a4_2, .string a4_3, .slice A4_4 l4_4.length c4_4], .bool a5, .bool true] rfl (by (try simp only [List.map_toArray, List.map_cons, List.map_nil]); first | done | rfl | (simp only [List.length_drop, List.length_take]; rfl)) ?_; (with_reducible refine (coerce_through.calls k _ _ l0 a1_0 a1_1 a1_2 a1_3 _ _ l1_4 a2 a3 a4_0 a4_1 a4_2 a4_3 _ _ l4_4 a5 true t241 t242 t243 t244 t245 t248 _ ?side1 ?side2 ?side3 ?side4 ?side5 ?side6 A20.out).mono ?_); (case side1 => repeat (first | exact (Kd.C_below HR0.out HB.out) | (with_reducible refine Kd.C_alloc ?_ _) | (with_reducible refine Kd.C_drewN ?_ _) | (with_reducible refine Kd.C_drew ?_))); (case side2 => exact HC0.out); (case side3 => repeat (first | exact (Kd.C_below HR1_4.out HB.out) | (with_reducible refine Kd.C_alloc ?_ _) | (with_reducible refine Kd.C_drewN ?_ _) | (with_reducible refine Kd.C_drew ?_))); (case side4 => exact HC1_4.out); (case side5 => repeat (first | exact (Kd.C_below HR4_4.out HB.out) | (with_reducible refine Kd.C_alloc ?_ _) | (with_reducible refine Kd.C_drewN ?_ _) | (with_reducible refine Kd.C_drew ?_))); (case side6 => exact HC4_4.out); rintro e w29 ⟨v246, rfl, ho0, hb⟩; refine ⟨_, rfl, ?_⟩; have n0_ := Aside0.mk (Kd.R_lower ho0 (below_size (by repeat (first | (with_reducible first | exact HB.out | apply below_alloc | apply pw_below_drewN | apply below_drew1 | refine below_set ?_ GE230.out | refine below_set ?_ GE231.out | refine below_set ?_ GE232.out) | exact HB.out)))); have n1_ := Aside0.mk (blk_below (g := gb230) (o := .cells #[.int .i64 a1_0, .int .i64 a1_1, .int .u64 a1_2, .string a1_3, .slice A1_4 l1_4.length c1_4] 27 (0, 0)) (by (with_reducible repeat (first | refine blk_drewN ?_ _ | refine blk_drew ?_ | refine blk_alloc ?_ _)); exact BK230.out) hb); have n2_ := Aside0.mk (blk_below (g := gb231) (o := .cells #[.int .i64 a4_0, .int .i64 a4_1, .int .u64 a4_2, .string a4_3, .slice A4_4 l4_4.length c4_4] 27 (0, 0)) (by (with_reducible repeat (first | refine blk_drewN ?_ _ | refine blk_drew ?_ | refine blk_alloc ?_ _)); exact BK231.out) hb); have n3_ := Aside0.mk (blk_below (g := gb232) (o := .cells #[.int .i64 0, .int .i64 0, .int .u64 0, .string (⟨#[]⟩ : ByteArray), .slice none 0 0] 27 (0, 0)) (by (with_reducible repeat (first | refine blk_drewN ?_ _ | refine blk_drew ?_ | refine blk_alloc ?_ _)); exact BK232.out) hb); have n4_ := Aside0.mk (below_step (by repeat (first | (with_reducible first | exact HB.out | apply below_alloc | apply pw_below_drewN | apply below_drew1 | refine below_set ?_ GE230.out | refine below_set ?_ GE231.out | refine below_set ?_ GE232.out) | exact HB.out)) hb); clear BK230; clear BK231; clear BK232; clear HB; have HO247 := n0_; have BK230 := n1_; have BK231 := n2_; have BK232 := n3_; have HB := n4_; clear n0_ n1_ n2_ n3_ n4_; (try clear hb); (try clear hb2); (try clear hk); (try clear hi); (try clear ho0); have hcz30_0 : w29.cell? ⟨gb232, 0, none⟩ = some (.int .i64 0) := (blk_cell BK232.out 0).trans rfl; have hcz30_1 : w29.cell? ⟨gb232, 1, none⟩ = some (.int .i64 0) := (blk_cell BK232.out 1).trans rfl; have hcz30_2 : w29.cell? ⟨gb232, 2, none⟩ = some (.int .u64 0) := (blk_cell BK232.out 2).trans rfl; have hcz30_3 : w29.cell? ⟨gb232, 3, none⟩ = some (.string (⟨#[]⟩ : ByteArray)) := (blk_cell BK232.out 3).trans rfl; have hcz30_4 : w29.cell? ⟨gb232, 4, none⟩ = some (.slice none 0 0) := (blk_cell BK232.out 4).trans rfl; have hfz30_0 := blk_frozen BK232.out 0; have hfz30_1 := blk_frozen BK232.out 1; have hfz30_2 := blk_frozen BK232.out 2; have hfz30_3 := blk_frozen BK232.out 3; have hfz30_4 := blk_frozen BK232.out 4; obtain ⟨Ao31, co31, eo31⟩ := Kd.R_slice HO247.out; subst eo31))
  refine bodyPost_ret (results_ct rfl _ _ gb232 27 #[.int .i64 t241, .int .i64 t242, .int .u64 t243, .string t244, .slice Ao31 t245.length co31] (0, 0) _ rfl (by (with_reducible repeat (first | refine blk_drewN ?_ _ | refine blk_drew ?_ | refine blk_alloc ?_ _)); refine blk_put (cs := #[.int .i64 t241, .int .i64 t242, .int .u64 t243, .string t244, .slice none 0 0]) ?_ 4 _ rfl; (with_reducible repeat (first | refine blk_drewN ?_ _ | refine blk_drew ?_ | refine blk_alloc ?_ _)); refine blk_put (cs := #[.int .i64 t241, .int .i64 t242, .int .u64 t243, .string (⟨#[]⟩ : ByteArray), .slice none 0 0]) ?_ 3 _ rfl; (with_reducible repeat (first | refine blk_drewN ?_ _ | refine blk_drew ?_ | refine blk_alloc ?_ _)); refine blk_put (cs := #[.int .i64 t241, .int .i64 t242, .int .u64 0, .string (⟨#[]⟩ : ByteArray), .slice none 0 0]) ?_ 2 _ rfl; (with_reducible repeat (first | refine blk_drewN ?_ _ | refine blk_drew ?_ | refine blk_alloc ?_ _)); refine blk_put (cs := #[.int .i64 t241, .int .i64 0, .int .u64 0, .string (⟨#[]⟩ : ByteArray), .slice none 0 0]) ?_ 1 _ rfl; (with_reducible repeat (first | refine blk_drewN ?_ _ | refine blk_drew ?_ | refine blk_alloc ?_ _)); refine blk_put (cs := #[.int .i64 0, .int .i64 0, .int .u64 0, .string (⟨#[]⟩ : ByteArray), .slice none 0 0]) ?_ 0 _ rfl; (with_reducible repeat (first | refine blk_drewN ?_ _ | refine blk_drew ?_ | refine blk_alloc ?_ _)); exact BK232.out) Try.underlying27 rfl (by kernel_rfl)) rfl ?_
  exact ⟨_, by first | rfl | (simp [errW_none, errW_some] <;> rfl) | (simp [*, errW_none, errW_some] <;> rfl), by (with_reducible repeat (first | apply Kd.R_alloc | apply Kd.R_drewN | apply Kd.R_drew)); exact Kd.R_mono (Kd.R_far (p := ⟨gb232, 4, none⟩) (Kd.R_far (p := ⟨gb232, 3, none⟩) (Kd.R_far (p := ⟨gb232, 2, none⟩) (Kd.R_far (p := ⟨gb232, 1, none⟩) (Kd.R_far (p := ⟨gb232, 0, none⟩) (Kd.R_types HO247.out BK232.out (by decide)) (fun _ hk => hk.2) (.int .i64 t241)) (fun _ hk => hk.2) (.int .i64 t242)) (fun _ hk => hk.2) (.int .u64 t243)) (fun _ hk => hk.2) (.string t244)) (fun _ hk => hk.2) (.slice Ao31 t245.length co31)) (fun _ hk => trivial), by repeat (first | (with_reducible first | exact HB.out | apply below_alloc | apply pw_below_drewN | apply below_drew1 | refine below_set ?_ GE230.out | refine below_set ?_ GE231.out | refine below_set ?_ GE232.out) | exact HB.out)⟩
end Go.Proofs.Ytinkbljjpafadaa.PAll
end

section
namespace Go.Proofs.Ytinkbljjpafadaa.PAll
open Go.RowKit Go.Proofs.YtinkbljjpafadaaW.PrintWords Go.Proofs.YtinkbljjpafadaaW.PrintLast Go.Proofs.YtinkbljjpafadaaW.PrintMore
attribute [local go_sem] max2_int min2_int max_two min_two max_three min_three max_four min_four   -- for this text's walks alone
set_option linter.unusedVariables false
set_option linter.unusedSimpArgs false
def chaperonlaw16_out.f (a0 : ByteArray) (a1 : Int) : Option (Bool × ByteArray × Int) := some (true, a0, a1)
set_option maxHeartbeats 8000000 in
set_option maxRecDepth 100000 in
theorem chaperonlaw16_out.calls (a0 : ByteArray) (a1 : Int) (r1 : Bool) (r2 : ByteArray) (r3 : Int) (w : World) (h : chaperonlaw16_out.f a0 a1 = some (r1, r2, r3)) :
  Calls Try.prog 17 #[.string a0, .int .i64 a1] w fun e w' => e = .returned (.agg #[.bool r1, .string r2, .int .i64 r3]) ∧ Below w.heap.size w w' := by
 have hu35 := Try.underlying35
 have HB := Aside0.mk (Below.refl w.heap.size w)
 have H : (some (true, a0, a1)) = some (r1, r2, r3) := h
 clear h
 simp only [Option.some.injEq, Prod.mk.injEq] at H
 obtain ⟨rfl, rfl, rfl⟩ := H
 go_enter Try.func17, Try.ntmps17
 go_wp2_with (first | ((with_reducible refine gate_dst (N := 4) rfl ?_); refine box_event ?hg (N := 4) ?hd (cs := #[.bool false, .string (⟨#[]⟩ : ByteArray), .int .i64 0]) (t := 35) ?hr ?_; (case hd => rfl); (case hg => rfl); (case hr => first | (go_simp; done) | (go_simp; rfl)); intro gb249 hg w3 hbox hb; have n0_ := Aside0.mk (below_step (by repeat (first | (with_reducible first | exact HB.out | apply below_alloc | apply pw_below_drewN | apply below_drew1) | exact HB.out)) hb); have n1_ := Aside0.mk (hbox); have n2_ := Aside0.mk ((by rw [hg]; exact (below_size (by repeat (first | (with_reducible first | exact HB.out | apply below_alloc | apply pw_below_drewN | apply below_drew1) | exact HB.out))) : w.heap.size ≤ gb249)); have n3_ := Aside0.mk ((by rw [hg]; exact (below_size (by repeat (first | (with_reducible first | exact HB.out | apply below_alloc | apply pw_below_drewN | apply below_drew1) | exact HB.out))) : w.heap.size ≤ gb249)); clear HB; have HB := n0_; have BK249 := n1_; have GW249 := n2_; have GE249 := n3_; clear n0_ n1_ n2_ n3_; clear hb hbox hg; have hcz4_0 : w3.cell? ⟨gb249, 0, none⟩ = some (.bool false) := (blk_cell BK249.out 0).trans rfl; have hcz4_1 : w3.cell? ⟨gb249, 1, none⟩ = some (.string (⟨#[]⟩ : ByteArray)) := (blk_cell BK249.out 1).trans rfl; have hcz4_2 : w3.cell? ⟨gb249, 2, none⟩ = some (.int .i64 0) := (blk_cell BK249.out 2).trans rfl; have hfz4_0 := blk_frozen BK249.out 0; have hfz4_1 := blk_frozen BK249.out 1; have hfz4_2 := blk_frozen BK249.out 2))
 refine bodyPost_ret (results_cell_row rfl _ _ gb249 35 #[.bool true, .string a0, .int .i64 a1] (0, 0) _ rfl (by (with_reducible repeat (first | refine blk_drewN ?_ _ | refine blk_drew ?_ | refine blk_alloc ?_ _)); refine blk_put (cs := #[.bool true, .string a0, .int .i64 0]) ?_ 2 _ rfl; (with_reducible repeat (first | refine blk_drewN ?_ _ | refine blk_drew ?_ | refine blk_alloc ?_ _)); refine blk_put (cs := #[.bool true, .string (⟨#[]⟩ : ByteArray), .int .i64 0]) ?_ 1 _ rfl; (with_reducible repeat (first | refine blk_drewN ?_ _ | refine blk_drew ?_ | refine blk_alloc ?_ _)); refine blk_put (cs := #[.bool false, .string (⟨#[]⟩ : ByteArray), .int .i64 0]) ?_ 0 _ rfl; (with_reducible repeat (first | refine blk_drewN ?_ _ | refine blk_drew ?_ | refine blk_alloc ?_ _)); exact BK249.out) Try.underlying35 rfl (by kernel_rfl)) rfl ?_
 exact ⟨by first | rfl | (simp [errW_none, errW_some] <;> rfl) | (simp [*, errW_none, errW_some] <;> rfl), by repeat (first | (with_reducible first | exact HB.out | apply below_alloc | apply pw_below_drewN | apply below_drew1 | refine below_set ?_ GE249.out) | exact HB.out)⟩
def coerce_Outward.f (k : Nat) (l0 : List (S64)) (a1_0 : Int) (a1_1 : Int) (a1_2 : Int) (a1_3 : ByteArray) (l1_4 : List (S35)) (a2 : ByteArray) (a3_0 : Int) (a3_1 : Int) (a3_2 : Int) (a3_3 : ByteArray) (l3_4 : List (S35)) (a4 : Bool) : Option (Int × Int × Int × ByteArray × (List (S35)) × Int) := (coerce_through.f k l0 a1_0 a1_1 a1_2 a1_3 l1_4 a2 (-1) a3_0 a3_1 a3_2 a3_3 l3_4 a4 false).bind fun bt253 => (some (bt253.1, bt253.2.1, bt253.2.2.1, bt253.2.2.2.1, bt253.2.2.2.2.1, bt253.2.2.2.2.2))
theorem coerce_Outward.mono : ∀ a0 a1 a2 a3 a4 a5 a6 a7 a8 a9 a10 a11 a12 k, LeO (coerce_Outward.f k a0 a1 a2 a3 a4 a5 a6 a7 a8 a9 a10 a11 a12) (coerce_Outward.f (k + 1) a0 a1 a2 a3 a4 a5 a6 a7 a8 a9 a10 a11 a12) := by
 intro a0 a1 a2 a3 a4 a5 a6 a7 a8 a9 a10 a11 a12 k
 unfold coerce_Outward.f
 repeat' first
   | (with_reducible exact coerce_through.mono _ _ _ _ _ _ _ _ _ _ _ _ _ _ _ _)
   | (with_reducible exact LeO.refl _)
   | (with_reducible exact LeO.none _)
   | (with_reducible refine LeO.ite ?_ ?_)
   | (with_reducible refine LeO.bind ?_ (fun _ => ?_))
   | exact coerce_through.mono _ _ _ _ _ _ _ _ _ _ _ _ _ _ _ _
   | exact LeO.none _
   | refine LeO.ite ?_ ?_
   | refine LeO.bind ?_ (fun _ => ?_)
set_option maxHeartbeats 8000000 in
set_option maxRecDepth 100000 in
theorem coerce_Outward.calls (k : Nat) (A0 : Option Addr) (c0 : Nat) (l0 : List (S64)) (a1_0 : Int) (a1_1 : Int) (a1_2 : Int) (a1_3 : ByteArray) (A1_4 : Option Addr) (c1_4 : Nat) (l1_4 : List (S35)) (a2 : ByteArray) (a3_0 : Int) (a3_1 : Int) (a3_2 : Int) (a3_3 : ByteArray) (A3_4 : Option Addr) (c3_4 : Nat) (l3_4 : List (S35)) (a4 : Bool) (r1 : Int) (r2 : Int) (r3 : Int) (r4 : ByteArray) (r5 : List (S35)) (r6 : Int) (w : World) (hr0 : Kd.C k64 w A0 l0.length l0) (hc0 : l0.length ≤ c0) (hr1_4 : Kd.C k35 w A1_4 l1_4.length l1_4) (hc1_4 : l1_4.length ≤ c1_4) (hr3_4 : Kd.C k35 w A3_4 l3_4.length l3_4) (hc3_4 : l3_4.length ≤ c3_4) (h : coerce_Outward.f k l0 a1_0 a1_1 a1_2 a1_3 l1_4 a2 a3_0 a3_1 a3_2 a3_3 l3_4 a4 = some (r1, r2, r3, r4, r5, r6)) :
  Calls Try.prog 23 #[.slice A0 l0.length c0, .agg #[.int .i64 a1_0, .int .i64 a1_1, .int .u64 a1_2, .string a1_3, .slice A1_4 l1_4.length c1_4], .string a2, .agg #[.int .i64 a3_0, .int .i64 a3_1, .int .u64 a3_2, .string a3_3, .slice A3_4 l3_4.length c3_4], .bool a4] w fun e w' => ∃ v4_ : Value, e = .returned (.tuple #[.agg #[.int .i64 r1, .int .i64 r2, .int .u64 r3, .string r4, v4_], .int .i64 r6]) ∧ Kd.R k35 35 w' w.heap.size (fun _ => True) v4_ r5 ∧ Below w.heap.size w w' := by
 have hu27 := Try.underlying27
 have HR0 := Aside0.mk hr0
 have HC0 := Aside0.mk hc0
 clear hr0 hc0
 have HR1_4 := Aside0.mk hr1_4
 have HC1_4 := Aside0.mk hc1_4
 clear hr1_4 hc1_4
 have HR3_4 := Aside0.mk hr3_4
 have HC3_4 := Aside0.mk hc3_4
 clear hr3_4 hc3_4
 have HB := Aside0.mk (Below.refl w.heap.size w)
 have H : ((coerce_through.f k l0 a1_0 a1_1 a1_2 a1_3 l1_4 a2 (-1) a3_0 a3_1 a3_2 a3_3 l3_4 a4 false).bind fun bt253 => (some (bt253.1, bt253.2.1, bt253.2.2.1, bt253.2.2.2.1, bt253.2.2.2.2.1, bt253.2.2.2.2.2))) = some (r1, r2, r3, r4, r5, r6) := h
 clear h
 replace H := Option.bind_eq_some_iff.mp H
 obtain ⟨⟨t253, t254, t255, t256, t257, t260⟩, A60, H⟩ := H
 replace H : (some (t253, t254, t255, t256, t257, t260)) = some (r1, r2, r3, r4, r5, r6) := H
 have A6 := Aside0.mk A60
 clear A60
 simp only [Option.some.injEq, Prod.mk.injEq] at H
 obtain ⟨rfl, rfl, rfl, rfl, rfl, rfl⟩ := H
 go_enter Try.func23, Try.ntmps23
 go_wp2_with (first | ((with_reducible refine gate_dst (N := 6) rfl ?_); refine box_event ?hg (N := 6) ?hd (cs := #[.int .i64 a1_0, .int .i64 a1_1, .int .u64 a1_2, .string a1_3, .slice A1_4 l1_4.length c1_4]) (t := 27) ?hr ?_; (case hd => rfl); (case hg => rfl); (case hr => first | (go_simp; done) | (go_simp; rfl)); intro gb250 hg w7 hbox hb; have n0_ := Aside0.mk (below_step (by repeat (first | (with_reducible first | exact HB.out | apply below_alloc | apply pw_below_drewN | apply below_drew1) | exact HB.out)) hb); have n1_ := Aside0.mk (hbox); have n2_ := Aside0.mk ((by rw [hg]; exact (below_size (by repeat (first | (with_reducible first | exact HB.out | apply below_alloc | apply pw_below_drewN | apply below_drew1) | exact HB.out))) : w.heap.size ≤ gb250)); have n3_ := Aside0.mk ((by rw [hg]; exact (below_size (by repeat (first | (with_reducible first | exact HB.out | apply below_alloc | apply pw_below_drewN | apply below_drew1) | exact HB.out))) : w.heap.size ≤ gb250)); clear HB; have HB := n0_; have BK250 := n1_; have GW250 := n2_; have GE250 := n3_; clear n0_ n1_ n2_ n3_; clear hb hbox hg) | ((with_reducible refine gate_dst (N := 8) rfl ?_); refine box_event ?hg (N := 8) ?hd (cs := #[.int .i64 a3_0, .int .i64 a3_1, .int .u64 a3_2, .string a3_3, .slice A3_4 l3_4.length c3_4]) (t := 27) ?hr ?_; (case hd => rfl); (case hg => rfl); (case hr => first | (go_simp; done) | (go_simp; rfl)); intro gb251 hg w8 hbox hb; have n0_ := Aside0.mk (blk_below (g := gb250) (o := .cells #[.int .i64 a1_0, .int .i64 a1_1, .int .u64 a1_2, .string a1_3, .slice A1_4 l1_4.length c1_4] 27 (0, 0)) (by (with_reducible repeat (first | refine blk_drewN ?_ _ | refine blk_drew ?_ | refine blk_alloc ?_ _)); exact BK250.out) hb); have n1_ := Aside0.mk (below_step (by repeat (first | (with_reducible first | exact HB.out | apply below_alloc | apply pw_below_drewN | apply below_drew1 | refine below_set ?_ GE250.out) | exact HB.out)) hb); have n2_ := Aside0.mk (hbox); have n3_ := Aside0.mk ((by rw [hg]; exact (below_size (by repeat (first | (with_reducible first | exact HB.out | apply below_alloc | apply pw_below_drewN | apply below_drew1 | refine below_set ?_ GE250.out) | exact HB.out))) : w.heap.size ≤ gb251)); have n4_ := Aside0.mk ((by rw [hg]; exact (below_size (by repeat (first | (with_reducible first | exact HB.out | apply below_alloc | apply pw_below_drewN | apply below_drew1 | refine below_set ?_ GE250.out) | exact HB.out))) : w.heap.size ≤ gb251)); have n5_ := Aside0.mk ((by rw [hg]; exact Nat.ne_of_lt (blk_lt (g := gb250) (o := .cells #[.int .i64 a1_0, .int .i64 a1_1, .int .u64 a1_2, .string a1_3, .slice A1_4 l1_4.length c1_4] 27 (0, 0)) (by (with_reducible repeat (first | refine blk_drewN ?_ _ | refine blk_drew ?_ | refine blk_alloc ?_ _)); exact BK250.out)) : gb250 ≠ gb251)); have n6_ := Aside0.mk ((by rw [hg]; exact Nat.ne_of_gt (blk_lt (g := gb250) (o := .cells #[.int .i64 a1_0, .int .i64 a1_1, .int .u64 a1_2, .string a1_3, .slice A1_4 l1_4.length c1_4] 27 (0, 0)) (by (with_reducible repeat (first | refine blk_drewN ?_ _ | refine blk_drew ?_ | refine blk_alloc ?_ _)); exact BK250.out)) : gb251 ≠ gb250)); clear BK250; clear HB; have BK250 := n0_; have HB := n1_; have BK251 := n2_; have GW251 := n3_; have GE251 := n4_; have NB250_251 := n5_; have NB251_250 := n6_; clear n0_ n1_ n2_ n3_ n4_ n5_ n6_; clear hb hbox hg) | ((with_reducible refine gate_dst (N := 10) rfl ?_); refine box_event ?hg (N := 10) ?hd (cs := #[.int .i64 0, .int .i64 0, .int .u64 0, .string (⟨#[]⟩ : ByteArray), .slice none 0 0]) (t := 27) ?hr ?_; (case hd => rfl); (case hg => rfl); (case hr => first | (go_simp; done) | (go_simp; rfl)); intro gb252 hg w9 hbox hb; have n0_ := Aside0.mk (blk_below (g := gb250) (o := .cells #[.int .i64 a1_0, .int .i64 a1_1, .int .u64 a1_2, .string a1_3, .slice A1_4 l1_4.length c1_4] 27 (0, 0)) (by (with_reducible repeat (first | refine blk_drewN ?_ _ | refine blk_drew ?_ | refine blk_alloc ?_ _)); exact BK250.out) hb); have n1_ := Aside0.mk (blk_below (g := gb251) (o := .cells #[.int .i64 a3_0, .int .i64 a3_1, .int .u64 a3_2, .string a3_3, .slice A3_4 l3_4.length c3_4] 27 (0, 0)) (by (with_reducible repeat (first | refine blk_drewN ?_ _ | refine blk_drew ?_ | refine blk_alloc ?_ _)); exact BK251.out) hb); have n2_ := Aside0.mk (below_step (by repeat (first | (with_reducible first | exact HB.out | apply below_alloc | apply pw_below_drewN | apply below_drew1 | refine below_set ?_ GE250.out | refine below_set ?_ GE251.out) | exact HB.out)) hb); have n3_ := Aside0.mk (hbox); have n4_ := Aside0.mk ((by rw [hg]; exact (below_size (by repeat (first | (with_reducible first | exact HB.out | apply below_alloc | apply pw_below_drewN | apply below_drew1 | refine below_set ?_ GE250.out | refine below_set ?_ GE251.out) | exact HB.out))) : w.heap.size ≤ gb252)); have n5_ := Aside0.mk ((by rw [hg]; exact (below_size (by repeat (first | (with_reducible first | exact HB.out | apply below_alloc | apply pw_below_drewN | apply below_drew1 | refine below_set ?_ GE250.out | refine below_set ?_ GE251.out) | exact HB.out))) : w.heap.size ≤ gb252)); have n6_ := Aside0.mk ((by rw [hg]; exact Nat.ne_of_lt (blk_lt (g := gb250) (o := .cells #[.int .i64 a1_0, .int .i64 a1_1, .int .u64 a1_2, .string a1_3, .slice A1_4 l1_4.length c1_4] 27 (0, 0)) (by (with_reducible repeat (first | refine blk_drewN ?_ _ | refine blk_drew ?_ | refine blk_alloc ?_ _)); exact BK250.out)) : gb250 ≠ gb252)); have n7_ := Aside0.mk ((by rw [hg]; exact Nat.ne_of_gt (blk_lt (g := gb250) (o := .cells #[.int .i64 a1_0, .int .i64 a1_1, .int .u64 a1_2, .string a1_3, .slice A1_4 l1_4.length c1_4] 27 (0, 0)) (by (with_reducible repeat (first | refine blk_drewN ?_ _ | refine blk_drew ?_ | refine blk_alloc ?_ _)); exact BK250.out)) : gb252 ≠ gb250)); have n8_ := Aside0.mk ((by rw [hg]; exact Nat.ne_of_lt (blk_lt (g := gb251) (o := .cells #[.int .i64 a3_0, .int .i64 a3_1, .int .u64 a3_2, .string a3_3, .slice A3_4 l3_4.length c3_4] 27 (0, 0)) (by (with_reducible repeat (first | refine blk_drewN ?_ _ | refine blk_drew ?_ | refine blk_alloc ?_ _)); exact BK251.out)) : gb251 ≠ gb252)); have n9_ := Aside0.mk ((by rw [hg]; exact Nat.ne_of_gt (blk_lt (g := gb251) (o := .cells #[.int .i64 a3_0, .int .i64 a3_1, .int .u64 a3_2, .string a3_3, .slice A3_4 l3_4.length c3_4] 27 (0, 0)) (by (with_reducible repeat (first | refine blk_drewN ?_ _ | refine blk_drew ?_ | refine blk_alloc ?_ _)); exact BK251.out)) : gb252 ≠ gb251)); clear BK250; clear BK251; clear HB; have BK250 := n0_; have BK251 := n1_; have HB := n2_; have BK252 := n3_; have GW252 := n4_; have GE252 := n5_; have NB250_252 := n6_; have NB252_250 := n7_; have NB251_252 := n8_; have NB252_251 := n9_; clear n0_ n1_ n2_ n3_ n4_ n5_ n6_ n7_ n8_ n9_; clear hb hbox hg; have hnb10 := NB250_251.out; have hnc10 := NB251_250.out; have hnb11 := NB250_252.out; have hnc11 := NB252_250.out; have hcz12_0 : w9.cell? ⟨gb250, 0, none⟩ = some (.int .i64 a1_0) := (blk_cell BK250.out 0).trans rfl; have hcz12_1 : w9.cell? ⟨gb250, 1, none⟩ = some (.int .i64 a1_1) := (blk_cell BK250.out 1).trans rfl; have hcz12_2 : w9.cell? ⟨gb250, 2, none⟩ = some (.int .u64 a1_2) := (blk_cell BK250.out 2).trans rfl; have hcz12_3 : w9.cell? ⟨gb250, 3, none⟩ = some (.string a1_3) := (blk_cell BK250.out 3).trans rfl; have hcz12_4 : w9.cell? ⟨gb250, 4, none⟩ = some (.slice A1_4 l1_4.length c1_4) := (blk_cell BK250.out 4).trans rfl; have hfz12_0 := blk_frozen BK250.out 0; have hfz12_1 := blk_frozen BK250.out 1; have hfz12_2 := blk_frozen BK250.out 2; have hfz12_3 := blk_frozen BK250.out 3; have hfz12_4 := blk_frozen BK250.out 4; have hnb13 := NB251_252.out; have hnc13 := NB252_251.out; have hcz14_0 : w9.cell? ⟨gb251, 0, none⟩ = some (.int .i64 a3_0) := (blk_cell BK251.out 0).trans rfl; have hcz14_1 : w9.cell? ⟨gb251, 1, none⟩ = some (.int .i64 a3_1) := (blk_cell BK251.out 1).trans rfl; have hcz14_2 : w9.cell? ⟨gb251, 2, none⟩ = some (.int .u64 a3_2) := (blk_cell BK251.out 2).trans rfl; have hcz14_3 : w9.cell? ⟨gb251, 3, none⟩ = some (.string a3_3) := (blk_cell BK251.out 3).trans rfl; have hcz14_4 : w9.cell? ⟨gb251, 4, none⟩ = some (.slice A3_4 l3_4.length c3_4) := (blk_cell BK251.out 4).trans rfl; have hfz14_0 := blk_frozen BK251.out 0; have hfz14_1 := blk_frozen BK251.out 1; have hfz14_2 := blk_frozen BK251.out 2; have hfz14_3 := blk_frozen BK251.out 3; have hfz14_4 := blk_frozen BK251.out 4) | ((with_reducible refine gate_callee (f := 37) rfl ?_); refine goesL_ (some 17) rfl rfl Try.func37 (by kernel_rfl) rfl #[.slice A0 l0.length c0, .agg #[.int .i64 a1_0, .int .i64 a1_1, .int .u64 a1_2, .string a1_3, .slice A1_4 l1_4.length c1_4], .string a2, .int .i64 (-1), .agg #[.int .i64 a3_0, .int .i64 a3_1, .int .u64 a3_2, .string a3_3, .slice A3_4 l3_4.length c3_4], .bool a4, .bool false] rfl (by (try simp only [List.map_toArray, List.map_cons, List.map_nil]); first | done | rfl | (simp only [List.length_drop, List.length_take]; rfl)) ?_; (with_reducible refine (coerce_through.calls k _ _ l0 a1_0 a1_1 a1_2 a1_3 _ _ l1_4 a2 (-1) a3_0 a3_1 a3_2 a3_3 _ _ l3_4 a4 false t253 t254 t255 t256 t257 t260 _ ?side1 ?side2 ?side3 ?side4 ?side5 ?side6 A6.out).mono ?_); (case side1 => repeat (first | exact (Kd.C_below HR0.out HB.out) | (with_reducible refine Kd.C_alloc ?_ _) | (with_reducible refine Kd.C_drewN ?_ _) | (with_reducible refine Kd.C_drew ?_))); (case side2 => exact HC0.out); (case side3 => repeat (first | exact (Kd.C_below HR1_4.out HB.out) | (with_reducible refine Kd.C_alloc ?_ _) | (with_reducible refine Kd.C_drewN ?_ _) | (with_reducible refine Kd.C_drew ?_))); (case side4 => exact HC1_4.out); (case side5 => repeat (first | exact (Kd.C_below HR3_4.out HB.out) | (with_reducible refine Kd.C_alloc ?_ _) | (with_reducible refine Kd.C_drewN ?_ _) | (with_reducible refine Kd.C_drew ?_))); (case side6 => exact HC3_4.out); rintro e w15 ⟨v258, rfl, ho0, hb⟩; refine ⟨_, rfl, ?_⟩; have n0_ := Aside0.mk (Kd.R_lower ho0 (below_size (by repeat (first | (with_reducible first | exact HB.out | apply below_alloc | apply pw_below_drewN | apply below_drew1 | refine below_set ?_ GE250.out | refine below_set ?_ GE251.out | refine below_set ?_ GE252.out) | exact HB.out)))); have n1_ := Aside0.mk (blk_below (g := gb250) (o := .cells #[.int .i64 a1_0, .int .i64 a1_1, .int .u64 a1_2, .string a1_3, .slice A1_4 l1_4.length c1_4] 27 (0, 0)) (by (with_reducible repeat (first | refine blk_drewN ?_ _ | refine blk_drew ?_ | refine blk_alloc ?_ _)); exact BK250.out) hb); have n2_ := Aside0.mk (blk_below (g := gb251) (o := .cells #[.int .i64 a3_0, .int .i64 a3_1, .int .u64 a3_2, .string a3_3, .slice A3_4 l3_4.length c3_4] 27 (0, 0)) (by (with_reducible repeat (first | refine blk_drewN ?_ _ | refine blk_drew ?_ | refine blk_alloc ?_ _)); exact BK251.out) hb); have n3_ := Aside0.mk (blk_below (g := gb252) (o := .cells #[.int .i64 0, .int .i64 0, .int .u64 0, .string (⟨#[]⟩ : ByteArray), .slice none 0 0] 27 (0, 0)) (by (with_reducible repeat (first | refine blk_drewN ?_ _ | refine blk_drew ?_ | refine blk_alloc ?_ _)); exact BK252.out) hb); have n4_ := Aside0.mk (below_step (by repeat (first | (with_reducible first | exact HB.out | apply below_alloc | apply pw_below_drewN | apply below_drew1 | refine below_set ?_ GE250.out | refine below_set ?_ GE251.out | refine below_set ?_ GE252.out) | exact HB.out)) hb); clear BK250; clear BK251; clear BK252; clear HB; have HO259 := n0_; have BK250 := n1_; have BK251 := n2_; have BK252 := n3_; have HB := n4_; clear n0_ n1_ n2_ n3_ n4_; (try clear hb); (try clear hb2); (try clear hk); (try clear hi); (try clear ho0); have hcz16_0 : w15.cell? ⟨gb252, 0, none⟩ = some (.int .i64 0) := (blk_cell BK252.out 0).trans rfl; have hcz16_1 : w15.cell? ⟨gb252, 1, none⟩ = some (.int .i64 0) := (blk_cell BK252.out 1).trans rfl; have hcz16_2 : w15.cell? ⟨gb252, 2, none⟩ = some (.int .u64 0) := (blk_cell BK252.out 2).trans rfl; have hcz16_3 : w15.cell? ⟨gb252, 3, none⟩ = some (.string (⟨#[]⟩ : ByteArray)) := (blk_cell BK252.out 3).trans rfl; have hcz16_4 : w15.cell? ⟨gb252, 4, none⟩ = some (.slice none 0 0) := (blk_cell BK252.out 4).trans rfl; have hfz16_0 := blk_frozen BK252.out 0; have hfz16_1 := blk_frozen BK252.out 1; have hfz16_2 := blk_frozen BK252.out 2; have hfz16_3 := blk_frozen BK252.out 3; have hfz16_4 := blk_frozen BK252.out 4; obtain ⟨Ao17, co17, eo17⟩ := Kd.R_slice HO259.out; subst eo17))
 refine bodyPost_ret (results_ct rfl _ _ gb252 27 #[.int .i64 t253, .int .i64 t254, .int .u64 t255, .string t256, .slice Ao17 t257.length co17] (0, 0) _ rfl (by (with_reducible repeat (first | refine blk_drewN ?_ _ | refine blk_drew ?_ | refine blk_alloc ?_ _)); refine blk_put (cs := #[.int .i64 t253, .int .i64 t254, .int .u64 t255, .string t256, .slice none 0 0]) ?_ 4 _ rfl; (with_reducible repeat (first | refine blk_drewN ?_ _ | refine blk_drew ?_ | refine blk_alloc ?_ _)); refine blk_put (cs := #[.int .i64 t253, .int .i64 t254, .int .u64 t255, .string (⟨#[]⟩ : ByteArray), .slice none 0 0]) ?_ 3 _ rfl; (with_reducible repeat (first | refine blk_drewN ?_ _ | refine blk_drew ?_ | refine blk_alloc ?_ _)); refine blk_put (cs := #[.int .i64 t253, .int .i64 t254, .int .u64 0, .string (⟨#[]⟩ : ByteArray), .slice none 0 0]) ?_ 2 _ rfl; (with_reducible repeat (first | refine blk_drewN ?_ _ | refine blk_drew ?_ | refine blk_alloc ?_ _)); refine blk_put (cs := #[.int .i64 t253, .int .i64 0, .int .u64 0, .string (⟨#[]⟩ : ByteArray), .slice none 0 0]) ?_ 1 _ rfl; (with_reducible repeat (first | refine blk_drewN ?_ _ | refine blk_drew ?_ | refine blk_alloc ?_ _)); refine blk_put (cs := #[.int .i64 0, .int .i64 0, .int .u64 0, .string (⟨#[]⟩ : ByteArray), .slice none 0 0]) ?_ 0 _ rfl; (with_reducible repeat (first | refine blk_drewN ?_ _ | refine blk_drew ?_ | refine blk_alloc ?_ _)); exact BK252.out) Try.underlying27 rfl (by kernel_rfl)) rfl ?_
 exact ⟨_, by first | rfl | (simp [errW_none, errW_some] <;> rfl) | (simp [*, errW_none, errW_some] <;> rfl), by (with_reducible repeat (first | apply Kd.R_alloc | apply Kd.R_drewN | apply Kd.R_drew)); exact Kd.R_mono (Kd.R_far (p := ⟨gb252, 4, none⟩) (Kd.R_far (p := ⟨gb252, 3, none⟩) (Kd.R_far (p := ⟨gb252, 2, none⟩) (Kd.R_far (p := ⟨gb252, 1, none⟩) (Kd.R_far (p := ⟨gb252, 0, none⟩) (Kd.R_types HO259.out BK252.out (by decide)) (fun _ hk => hk.2) (.int .i64 t253)) (fun _ hk => hk.2) (.int .i64 t254)) (fun _ hk => hk.2) (.int .u64 t255)) (fun _ hk => hk.2) (.string t256)) (fun _ hk => hk.2) (.slice Ao17 t257.length co17)) (fun _ hk => trivial), by repeat (first | (with_reducible first | exact HB.out | apply below_alloc | apply pw_below_drewN | apply below_drew1 | refine below_set ?_ GE250.out | refine below_set ?_ GE251.out | refine below_set ?_ GE252.out) | exact HB.out)⟩
end Go.Proofs.Ytinkbljjpafadaa.PAll
end

section
namespace Go.Proofs.Ytinkbljjpafadaa.PAll
open Go.RowKit Go.Proofs.YtinkbljjpafadaaW.PrintWords Go.Proofs.YtinkbljjpafadaaW.PrintLast Go.Proofs.YtinkbljjpafadaaW.PrintMore
attribute [local go_sem] max2_int min2_int max_two min_two max_three min_three max_four min_four   -- for this text's walks alone
set_option linter.unusedVariables false
set_option linter.unusedSimpArgs false
def chaperonlaw16_awake.f (k : Nat)  : Option Bool := (chaperonlaw16_some.f).bind fun bF3 => (coerce_Outward.f k bF3 7 1 0 (⟨#[67]⟩ : ByteArray) ([(⟨false, (⟨#[67]⟩ : ByteArray), (-1)⟩ : S35), (⟨true, (⟨#[67]⟩ : ByteArray), 1⟩ : S35)] : List (S35)) (⟨#[109]⟩ : ByteArray) 7 1 0 (⟨#[69]⟩ : ByteArray) ([] : List (S35)) false).bind fun bF10 => (chaperonlaw16_some.f).bind fun bF13 => (chaperonlaw16_three.f).bind fun bF19 => (coerce_Inward.f k bF13 7 1 0 (⟨#[67]⟩ : ByteArray) ([(⟨false, (⟨#[67]⟩ : ByteArray), (-1)⟩ : S35), (⟨true, (⟨#[67]⟩ : ByteArray), 1⟩ : S35)] : List (S35)) (⟨#[109]⟩ : ByteArray) 0 bF19.1 bF19.2.1 bF19.2.2.1 bF19.2.2.2.1 bF19.2.2.2.2 false).bind fun bF26 => (chaperonlaw16_casts.f k 7 1 0 (⟨#[69]⟩ : ByteArray) ([] : List (S35)) (⟨#[69]⟩ : ByteArray) (⟨#[68]⟩ : ByteArray) 2 7 1 0 (⟨#[69]⟩ : ByteArray) ([(⟨false, (⟨#[69]⟩ : ByteArray), (-2)⟩ : S35), (⟨true, (⟨#[68]⟩ : ByteArray), 2⟩ : S35)] : List (S35)) 0).bind fun bF29 => (if bF29 = true then (chaperonlaw16_three.f).bind fun bF35 => (chaperonlaw16_casts.f k bF35.1 bF35.2.1 bF35.2.2.1 bF35.2.2.2.1 bF35.2.2.2.2 (⟨#[63]⟩ : ByteArray) (⟨#[115, 116, 114]⟩ : ByteArray) 1 0 0 0 (⟨#[]⟩ : ByteArray) ([] : List (S35)) 1).bind fun bF37 => (if bF37 = true then (chaperonlaw16_enters.f k 7 1 0 (⟨#[69]⟩ : ByteArray) ([(⟨false, (⟨#[68]⟩ : ByteArray), 1⟩ : S35)] : List (S35)) (⟨#[69]⟩ : ByteArray) 5 0 0 0 (⟨#[]⟩ : ByteArray) ([] : List (S35)) 5).bind fun bF39 => (if bF39 = true then (if (bF10.2.2.2.2.2 == 0) = true then (chaperonkit_SameValue.f k bF10.1 bF10.2.1 bF10.2.2.1 bF10.2.2.2.1 bF10.2.2.2.2.1 7 1 0 (⟨#[69]⟩ : ByteArray) ([(⟨false, (⟨#[68]⟩ : ByteArray), (-1)⟩ : S35), (⟨true, (⟨#[68]⟩ : ByteArray), 1⟩ : S35)] : List (S35))).bind fun bF41 => (if bF41 = true then (if (bF26.2.2.2.2.2 == (-1)) = true then (chaperonkit_SameValue.f k bF26.1 bF26.2.1 bF26.2.2.1 bF26.2.2.2.1 bF26.2.2.2.2.1 0 0 0 (⟨#[]⟩ : ByteArray) ([] : List (S35))).bind fun bF43 => some (bF43) else none) else none) else none) else none) else none) else none)
theorem chaperonlaw16_awake.mono : ∀  k, LeO (chaperonlaw16_awake.f k ) (chaperonlaw16_awake.f (k + 1) ) := by
 intro  k
 unfold chaperonlaw16_awake.f
 repeat' first
  | (with_reducible exact chaperonkit_SameValue.mono _ _ _ _ _ _ _ _ _ _ _)
  | (with_reducible exact chaperonlaw16_casts.mono _ _ _ _ _ _ _ _ _ _ _ _ _ _ _)
  | (with_reducible exact chaperonlaw16_enters.mono _ _ _ _ _ _ _ _ _ _ _ _ _ _)
  | (with_reducible exact coerce_Inward.mono _ _ _ _ _ _ _ _ _ _ _ _ _ _ _)
  | (with_reducible exact coerce_Outward.mono _ _ _ _ _ _ _ _ _ _ _ _ _ _)
  | (with_reducible exact LeO.refl _)
  | (with_reducible exact LeO.none _)
  | (with_reducible refine LeO.ite ?_ ?_)
  | (with_reducible refine LeO.bind ?_ (fun _ => ?_))
open Go.Proofs.YtinkbljjpafadaaRF in
theorem chaperonlaw16_awake.obj_is (a : ByteArray) (A : Option Addr) (n c : Nat) (w : World) : Calls Try.prog 9 #[.string a, .slice A n c] w fun e w' => e = .returned (.agg #[.int .i64 7, .int .i64 1, .int .u64 0, .string a, .slice A n c]) ∧ Below w.heap.size w w' := by
 have hu27 := Try.underlying27
 go_enter Try.func9, Try.ntmps9
 go_wp2_with fail
 refine bodyPost_ret (results_cell_row rfl _ _ w.heap.size 27 #[.int .i64 7, .int .i64 1, .int .u64 0, .string a, .slice A n c] (0, 0) _ rfl (at_new _ _ rfl) hu27 rfl (by kernel_rfl)) rfl ?_
 exact ⟨rfl, (Below.refl _ _).alloc (Nat.le_refl _) _⟩
open Go.Proofs.YtinkbljjpafadaaRF Go.Proofs.YtinkbljjpafadaaRG in
set_option maxHeartbeats 2000000 in
set_option maxRecDepth 100000 in
theorem chaperonlaw16_awake.calls (k : Nat)  (r : Bool) (w : World)  (h : chaperonlaw16_awake.f k  = some r) :
  Calls Try.prog 18 #[] w fun e w' => e = .returned (.bool r) ∧ Below w.heap.size w w' := by
 unfold chaperonlaw16_awake.f at h
 have hu27 := Try.underlying27
 have hu33 := Try.underlying33
 have hu35 := Try.underlying35
 have HB := Aside0.mk (Below.refl w.heap.size w)
 replace h := Option.bind_eq_some_iff.1 h
 obtain ⟨t2, F3, h⟩ := h
 try dsimp only at h
 replace F3 := Aside0.mk F3
 replace h := Option.bind_eq_some_iff.1 h
 obtain ⟨⟨t4, t5, t6, t7, t8, t9⟩, F10, h⟩ := h
 try dsimp only at h
 replace F10 := Aside0.mk F10
 replace h := Option.bind_eq_some_iff.1 h
 obtain ⟨t12, F13, h⟩ := h
 try dsimp only at h
 replace F13 := Aside0.mk F13
 replace h := Option.bind_eq_some_iff.1 h
 obtain ⟨⟨t14, t15, t16, t17, t18⟩, F19, h⟩ := h
 try dsimp only at h
 replace F19 := Aside0.mk F19
 replace h := Option.bind_eq_some_iff.1 h
 obtain ⟨⟨t20, t21, t22, t23, t24, t25⟩, F26, h⟩ := h
 try dsimp only at h
 replace F26 := Aside0.mk F26
 replace h := Option.bind_eq_some_iff.1 h
 obtain ⟨t28, F29, h⟩ := h
 try dsimp only at h
 replace F29 := Aside0.mk F29
 by_cases q44 : t28 = true
 ·
  rw [if_pos q44] at h
  obtain rfl : t28 = true := by simpa using q44
  replace h := Option.bind_eq_some_iff.1 h
  obtain ⟨⟨t30, t31, t32, t33, t34⟩, F35, h⟩ := h
  try dsimp only at h
  replace F35 := Aside0.mk F35
  replace h := Option.bind_eq_some_iff.1 h
  obtain ⟨t36, F37, h⟩ := h
  try dsimp only at h
  replace F37 := Aside0.mk F37
  by_cases q45 : t36 = true
  ·
   rw [if_pos q45] at h
   obtain rfl : t36 = true := by simpa using q45
   replace h := Option.bind_eq_some_iff.1 h
   obtain ⟨t38, F39, h⟩ := h
   try dsimp only at h
   replace F39 := Aside0.mk F39
   by_cases q46 : t38 = true
   ·
    rw [if_pos q46] at h
    obtain rfl : t38 = true := by simpa using q46
    by_cases q47 : (t9 == 0) = true
    ·
     rw [if_pos q47] at h
     have q47a : (t9 == 0) = true := by simpa using q47
     have q47b : decide (t9 = 0) = true := by simpa using q47
     clear q47
     replace h := Option.bind_eq_some_iff.1 h
     obtain ⟨t40, F41, h⟩ := h
     try dsimp only at h
     replace F41 := Aside0.mk F41
     by_cases q48 : t40 = true
     ·
      rw [if_pos q48] at h
      obtain rfl : t40 = true := by simpa using q48
      by_cases q49 : (t25 == (-1)) = true
      ·
       rw [if_pos q49] at h
       have q49a : (t25 == (-1)) = true := by simpa using q49
       have q49b : decide (t25 = (-1)) = true := by simpa using q49
       clear q49
       replace h := Option.bind_eq_some_iff.1 h
       obtain ⟨t42, F43, h⟩ := h
       try dsimp only at h
       replace F43 := Aside0.mk F43
       obtain rfl := Option.some.inj h
       go_enter Try.func18, Try.ntmps18
       refine wp_seq ?_
       refine rg_text (N := 63) 1 Grows (by kernel_rfl) rfl Grows.refl Grows.trans ?_
       rw [show List.range 1 = [0] from rfl]
       refine rg_val (.bool false) Grows.refl rfl (fun _ _ _ _ => wanted_none rfl) ?_ ?_
       ·
        intro a w' hr hs
        go_simp
       intro vs w1_ hr hE
       have e0 : vs 0 = .bool false := hE _ (mem_at 0 rfl)
       have hg : Grows w w1_ := hr
       clear hE hr
       rw [show List.range 1 = [0] from rfl]
       simp only [putL, slotOf, List.getElem?_toArray, List.getElem?_cons_zero, List.getElem?_cons_succ, Option.bind_some, Act.put, List.setIfInBounds_toArray, List.set_cons_succ, List.set_cons_zero, e0]
       clear e0
       have hT : Grows w1_ w1_ := Grows.refl _
       replace hg : Grows w w1_ := hg.trans hT
       clear hT
       refine tail_end ?_
       simp only [Exit.then]
       replace HB := Aside0.mk (HB.out.trans (Below.mono hg HB.out.size))
       clear hg
       refine wp_seq ?_
       refine rg_text (N := 63) 4 Grows (by kernel_rfl) rfl Grows.refl Grows.trans ?_
       rw [show List.range 4 = [0, 1, 2, 3] from rfl]
       refine rg_call (fun v _ => v = .agg #[.bool false, .string (⟨#[67]⟩ : ByteArray), .int .i64 (-1)]) (fun _ _ _ _ h => h) rfl rfl Try.func10 (by kernel_rfl) rfl (fun _ _ _ _ => wanted_none rfl) ?_ ?_
       ·
        intro a w' hr hs
        rw [show (#[Operand.const (.string (⟨#[67]⟩ : ByteArray)), Operand.const (.int .i64 (-1))] : Array Operand).map a.eval = #[.string (⟨#[67]⟩ : ByteArray), .int .i64 (-1)] by simp [Act.eval]]
        refine (chaperonlaw16_in.calls (⟨#[67]⟩ : ByteArray) (-1) false (⟨#[67]⟩ : ByteArray) (-1) _ rfl).mono ?_
        rintro e w3 ⟨rfl, hb⟩
        exact ⟨_, rfl, hb, rfl⟩
       refine rg_call (fun v _ => v = .agg #[.bool true, .string (⟨#[67]⟩ : ByteArray), .int .i64 1]) (fun _ _ _ _ h => h) rfl rfl Try.func17 (by kernel_rfl) rfl (fun _ _ _ _ => wanted_none rfl) ?_ ?_
       ·
        intro a w' hr hs
        rw [show (#[Operand.const (.string (⟨#[67]⟩ : ByteArray)), Operand.const (.int .i64 1)] : Array Operand).map a.eval = #[.string (⟨#[67]⟩ : ByteArray), .int .i64 1] by simp [Act.eval]]
        refine (chaperonlaw16_out.calls (⟨#[67]⟩ : ByteArray) 1 true (⟨#[67]⟩ : ByteArray) 1 _ rfl).mono ?_
        rintro e w3 ⟨rfl, hb⟩
        exact ⟨_, rfl, hb, rfl⟩
       refine rg_litR k35 35 ([(⟨false, (⟨#[67]⟩ : ByteArray), (-1)⟩ : S35), (⟨true, (⟨#[67]⟩ : ByteArray), 1⟩ : S35)] : List (S35)) rfl rfl (fun _ _ _ _ => wanted_none rfl) (by simp) ?_ ?_
       ·
        intro a w' hr hs
        have h6 : a.tmps[6]?.getD undef = .agg #[.bool false, .string (⟨#[67]⟩ : ByteArray), .int .i64 (-1)] := hs.get 1 rfl (by kernel_rfl) rfl
        have h7 : a.tmps[7]?.getD undef = .agg #[.bool true, .string (⟨#[67]⟩ : ByteArray), .int .i64 1] := hs.get 0 rfl (by kernel_rfl) rfl
        refine ⟨[.bool false, .string (⟨#[67]⟩ : ByteArray), .int .i64 (-1), .bool true, .string (⟨#[67]⟩ : ByteArray), .int .i64 1], by go_simp <;> rfl, ?_⟩
        exact Reps.c3 (show Kd.M k35 _ _ _ (⟨false, (⟨#[67]⟩ : ByteArray), (-1)⟩ : S35) [.bool false, .string (⟨#[67]⟩ : ByteArray), .int .i64 (-1)] from k35_mkM _ _ _ _) (Reps.c3 (show Kd.M k35 _ _ _ (⟨true, (⟨#[67]⟩ : ByteArray), 1⟩ : S35) [.bool true, .string (⟨#[67]⟩ : ByteArray), .int .i64 1] from k35_mkM _ _ _ _) (Reps.none _ _))
       refine rg_call (OneR k35 35 ([(⟨false, (⟨#[67]⟩ : ByteArray), (-1)⟩ : S35), (⟨true, (⟨#[67]⟩ : ByteArray), 1⟩ : S35)] : List (S35)) (fun u => .agg #[.int .i64 7, .int .i64 1, .int .u64 0, .string (⟨#[67]⟩ : ByteArray), u])) OneR.grows rfl rfl Try.func9 (by kernel_rfl) rfl (fun _ _ _ _ => wanted_none rfl) ?_ ?_
       ·
        intro a w' hr hs
        have g8 : OneR k35 35 ([(⟨false, (⟨#[67]⟩ : ByteArray), (-1)⟩ : S35), (⟨true, (⟨#[67]⟩ : ByteArray), 1⟩ : S35)] : List (S35)) (fun u => u) (a.tmps[8]?.getD undef) w' := hs.get 0 rfl (by kernel_rfl) rfl
        obtain ⟨A8, c8, h8, hc8, hC8, hR8⟩ := g8.reads
        replace h8 : a.tmps[8]?.getD undef = .slice A8 ([(⟨false, (⟨#[67]⟩ : ByteArray), (-1)⟩ : S35), (⟨true, (⟨#[67]⟩ : ByteArray), 1⟩ : S35)] : List (S35)).length c8 := h8
        rw [show (#[Operand.const (.string (⟨#[67]⟩ : ByteArray)), Operand.tmp 8] : Array Operand).map a.eval = #[.string (⟨#[67]⟩ : ByteArray), .slice A8 ([(⟨false, (⟨#[67]⟩ : ByteArray), (-1)⟩ : S35), (⟨true, (⟨#[67]⟩ : ByteArray), 1⟩ : S35)] : List (S35)).length c8] by simp [Act.eval, h8]]
        refine (chaperonlaw16_awake.obj_is _ _ _ _ _).mono ?_
        rintro e w3 ⟨rfl, hb⟩
        exact ⟨_, rfl, hb, _, rfl, Kd.R_below hR8 hb⟩
       intro vs w2_ hr hE
       have g_ : OneR k35 35 ([(⟨false, (⟨#[67]⟩ : ByteArray), (-1)⟩ : S35), (⟨true, (⟨#[67]⟩ : ByteArray), 1⟩ : S35)] : List (S35)) (fun u => .agg #[.int .i64 7, .int .i64 1, .int .u64 0, .string (⟨#[67]⟩ : ByteArray), u]) (vs 3) w2_ := hE _ (mem_at 0 rfl)
       obtain ⟨Au50, cu50, e3, hcu50, hCu50, hRu50⟩ := g_.reads
       clear g_
       replace e3 : vs 3 = .agg #[.int .i64 7, .int .i64 1, .int .u64 0, .string (⟨#[67]⟩ : ByteArray), .slice Au50 ([(⟨false, (⟨#[67]⟩ : ByteArray), (-1)⟩ : S35), (⟨true, (⟨#[67]⟩ : ByteArray), 1⟩ : S35)] : List (S35)).length cu50] := e3
       have HCu50 := Aside0.mk hCu50
       clear hCu50
       have HRu50 := Aside0.mk hRu50
       clear hRu50
       have hg : Grows w1_ w2_ := hr
       clear hE hr
       rw [show List.range 4 = [0, 1, 2, 3] from rfl]
       simp only [putL, slotOf, List.getElem?_toArray, List.getElem?_cons_zero, List.getElem?_cons_succ, Option.bind_some, Act.put, List.setIfInBounds_toArray, List.set_cons_succ, List.set_cons_zero, e3]
       clear e3
       have hT : Grows w2_ w2_ := Grows.refl _
       obtain ⟨w2_a, hw2_a⟩ : ∃ W, W = w2_.alloc (.cells #[.int .i64 0, .int .i64 0, .int .u64 0, .string (⟨#[]⟩ : ByteArray), .slice none 0 0] 27) := ⟨_, rfl⟩
       obtain ⟨b1_, hb1_⟩ : ∃ n, n = w2_.heap.size := ⟨_, rfl⟩
       refine tail_valD (i := 4) (r := [5]) (w' := w2_a) 1 (.pointer (some ⟨b1_, 0, none⟩)) rfl rfl (wanted_none rfl) (by rw [hw2_a, hb1_]; go_simp) ?_
       simp only [Act.put, List.setIfInBounds_toArray, List.set_cons_succ, List.set_cons_zero]
       have HXb1 : w2_a.heap[b1_]? = some (.cells #[.int .i64 0, .int .i64 0, .int .u64 0, .string (⟨#[]⟩ : ByteArray), .slice none 0 0] 27 (0, 0)) := by rw [hw2_a, hb1_]; exact at_new _ _ rfl
       replace HXb1 := Aside0.mk HXb1
       have hlb1 : w2_.heap.size ≤ b1_ := by rw [hb1_]; exact hT.size
       replace hT : Grows w2_ w2_a := by rw [hw2_a]; exact hT.trans (Grows.alloc _ _)
       clear hw2_a hb1_
       have z0 := cell_at HXb1.out 0
       have f0 := free_at HXb1.out 0
       have z1 := cell_at HXb1.out 1
       have f1 := free_at HXb1.out 1
       have z2 := cell_at HXb1.out 2
       have f2 := free_at HXb1.out 2
       have z3 := cell_at HXb1.out 3
       have f3 := free_at HXb1.out 3
       have z4 := cell_at HXb1.out 4
       have f4 := free_at HXb1.out 4
       simp only [List.getElem?_toArray, List.getElem?_cons_zero, List.getElem?_cons_succ] at z0 z1 z2 z3 z4
       obtain ⟨w2_as, hw2_as⟩ : ∃ W, W = (((((w2_a.setCell ⟨b1_, 0, none⟩ (.int .i64 7)).setCell ⟨b1_, 1, none⟩ (.int .i64 1)).setCell ⟨b1_, 2, none⟩ (.int .u64 0)).setCell ⟨b1_, 3, none⟩ (.string (⟨#[67]⟩ : ByteArray))).setCell ⟨b1_, 4, none⟩ (.slice Au50 ([(⟨false, (⟨#[67]⟩ : ByteArray), (-1)⟩ : S35), (⟨true, (⟨#[67]⟩ : ByteArray), 1⟩ : S35)] : List (S35)).length cu50)) := ⟨_, rfl⟩
       refine tail_skipD (i := 5) (r := []) (w' := w2_as) rfl rfl (wanted_none rfl) (by rw [hw2_as]; go_simp) ?_
       clear z0 z1 z2 z3 z4 f0 f1 f2 f3 f4
       have hX_ : w2_as.heap[b1_]? = some (.cells #[.int .i64 7, .int .i64 1, .int .u64 0, .string (⟨#[67]⟩ : ByteArray), .slice Au50 ([(⟨false, (⟨#[67]⟩ : ByteArray), (-1)⟩ : S35), (⟨true, (⟨#[67]⟩ : ByteArray), 1⟩ : S35)] : List (S35)).length cu50] 27 (0, 0)) := by rw [hw2_as]; exact (blk_put (blk_put (blk_put (blk_put (blk_put HXb1.out 0 (.int .i64 7) rfl) 1 (.int .i64 1) rfl) 2 (.int .u64 0) rfl) 3 (.string (⟨#[67]⟩ : ByteArray)) rfl) 4 (.slice Au50 ([(⟨false, (⟨#[67]⟩ : ByteArray), (-1)⟩ : S35), (⟨true, (⟨#[67]⟩ : ByteArray), 1⟩ : S35)] : List (S35)).length cu50) rfl)
       replace HXb1 := Aside0.mk hX_
       clear hX_
       replace hT : Grows w2_ w2_as := by rw [hw2_as]; exact (setB (setB (setB (setB (setB hT hlb1 (.int .i64 7)) hlb1 (.int .i64 1)) hlb1 (.int .u64 0)) hlb1 (.string (⟨#[67]⟩ : ByteArray))) hlb1 (.slice Au50 ([(⟨false, (⟨#[67]⟩ : ByteArray), (-1)⟩ : S35), (⟨true, (⟨#[67]⟩ : ByteArray), 1⟩ : S35)] : List (S35)).length cu50))
       clear hw2_as
       replace HCu50 := Aside0.mk (Kd.C_below HCu50.out hT)
       replace hg : Grows w1_ w2_as := hg.trans hT
       clear hT
       refine tail_end ?_
       simp only [Exit.then]
       replace HB := Aside0.mk (HB.out.trans (Below.mono hg HB.out.size))
       clear hg
       refine wp_seq ?_
       refine rg_regionL (N := 63) 8 [6] Grows (by kernel_rfl) (by kernel_rfl) rfl Grows.refl Grows.trans rfl rfl rfl rfl (by kernel_rfl) ?_
       rw [show List.range 8 = [0, 1, 2, 3, 4, 5, 6, 7] from rfl]
       refine rgl_call (OneC k64 t2 (fun u => u)) OneC.grows rfl rfl Try.func6 (by kernel_rfl) rfl (fun _ _ _ _ => wanted_none rfl) ?_ ?_
       ·
        intro a w' hr hs
        rw [show (#[] : Array Operand).map a.eval = #[] by simp]
        refine (chaperonlaw16_some.calls t2 _ F3.out).mono ?_
        rintro e w3 ⟨v, rfl, hN, hb⟩
        obtain ⟨A9, c9, rfl, hc9, hC9⟩ := Kd.N_reads hN
        exact ⟨_, rfl, hb, A9, c9, rfl, hc9, hC9⟩
       refine rgl_val (.agg #[.int .i64 7, .int .i64 1, .int .u64 0, .string (⟨#[67]⟩ : ByteArray), .slice Au50 ([(⟨false, (⟨#[67]⟩ : ByteArray), (-1)⟩ : S35), (⟨true, (⟨#[67]⟩ : ByteArray), 1⟩ : S35)] : List (S35)).length cu50]) Grows.refl rfl (fun _ _ _ _ => wanted_none rfl) ?_ ?_
       ·
        intro a w' hr hs
        have h1 : a.tmps[1]?.getD undef = .pointer (some ⟨b1_, 0, none⟩) := hs.out 1 (by kernel_rfl)
        have x := hr.at (at_drew HXb1.out)
        have x0 := cell_at x 0
        have x1 := cell_at x 1
        have x2 := cell_at x 2
        have x3 := cell_at x 3
        have x4 := cell_at x 4
        simp only [List.getElem?_toArray, List.getElem?_cons_zero, List.getElem?_cons_succ] at x0 x1 x2 x3 x4
        go_simp
       refine rgl_call (fun v _ => v = .agg #[.int .i64 7, .int .i64 1, .int .u64 0, .string (⟨#[69]⟩ : ByteArray), .slice none 0 0]) (fun _ _ _ _ h => h) rfl rfl Try.func9 (by kernel_rfl) rfl (fun _ _ _ _ => wanted_none rfl) ?_ ?_
       ·
        intro a w' hr hs
        rw [show (#[Operand.const (.string (⟨#[69]⟩ : ByteArray)), Operand.const (.slice none 0 0)] : Array Operand).map a.eval = #[.string (⟨#[69]⟩ : ByteArray), .slice none 0 0] by simp [Act.eval]]
        refine (chaperonlaw16_awake.obj_is _ _ _ _ _).mono ?_
        rintro e w3 ⟨rfl, hb⟩
        exact ⟨_, rfl, hb, rfl⟩
       refine rgl_call (OneR k35 35 t8 (fun u => .tuple #[.agg #[.int .i64 t4, .int .i64 t5, .int .u64 t6, .string t7, u], .int .i64 t9])) OneR.grows rfl rfl Try.func23 (by kernel_rfl) rfl (fun _ _ _ _ => wanted_none rfl) ?_ ?_
       ·
        intro a w' hr hs
        have g11 : OneC k64 t2 (fun u => u) (a.tmps[11]?.getD undef) w' := hs.get 2 rfl (by kernel_rfl) rfl
        obtain ⟨A11, c11, h11, hc11, hC11⟩ := g11.reads
        replace h11 : a.tmps[11]?.getD undef = .slice A11 t2.length c11 := h11
        have h12 : a.tmps[12]?.getD undef = .agg #[.int .i64 7, .int .i64 1, .int .u64 0, .string (⟨#[67]⟩ : ByteArray), .slice Au50 ([(⟨false, (⟨#[67]⟩ : ByteArray), (-1)⟩ : S35), (⟨true, (⟨#[67]⟩ : ByteArray), 1⟩ : S35)] : List (S35)).length cu50] := hs.get 1 rfl (by kernel_rfl) rfl
        have h13 : a.tmps[13]?.getD undef = .agg #[.int .i64 7, .int .i64 1, .int .u64 0, .string (⟨#[69]⟩ : ByteArray), .slice none 0 0] := hs.get 0 rfl (by kernel_rfl) rfl
        rw [show (#[Operand.tmp 11, Operand.tmp 12, Operand.const (.string (⟨#[109]⟩ : ByteArray)), Operand.tmp 13, Operand.const (.bool false)] : Array Operand).map a.eval = #[.slice A11 t2.length c11, .agg #[.int .i64 7, .int .i64 1, .int .u64 0, .string (⟨#[67]⟩ : ByteArray), .slice Au50 ([(⟨false, (⟨#[67]⟩ : ByteArray), (-1)⟩ : S35), (⟨true, (⟨#[67]⟩ : ByteArray), 1⟩ : S35)] : List (S35)).length cu50], .string (⟨#[109]⟩ : ByteArray), .agg #[.int .i64 7, .int .i64 1, .int .u64 0, .string (⟨#[69]⟩ : ByteArray), .slice none 0 0], .bool false] by simp [Act.eval, h11, h12, h13]]
        refine (coerce_Outward.calls k A11 c11 t2 7 1 0 (⟨#[67]⟩ : ByteArray) Au50 cu50 ([(⟨false, (⟨#[67]⟩ : ByteArray), (-1)⟩ : S35), (⟨true, (⟨#[67]⟩ : ByteArray), 1⟩ : S35)] : List (S35)) (⟨#[109]⟩ : ByteArray) 7 1 0 (⟨#[69]⟩ : ByteArray) none 0 ([] : List (S35)) false t4 t5 t6 t7 t8 t9 _ hC11 hc11 (Kd.C_below (Kd.C_drew HCu50.out) hr) hcu50 (Kd.C_nil _ _) (Nat.le_refl _) F10.out).mono ?_
        rintro e w3 ⟨v, rfl, hR, hb⟩
        exact ⟨_, rfl, hb, OneR.of hR⟩
       refine rgl_keep (OneR k35 35 t8 (fun u => .tuple #[.agg #[.int .i64 t4, .int .i64 t5, .int .u64 t6, .string t7, u], .int .i64 t9])) OneR.grows Grows.refl rfl (fun _ _ _ _ => wanted_none rfl) ?_ ?_
       ·
        intro a w' hr hs
        have g14 : OneR k35 35 t8 (fun u => .tuple #[.agg #[.int .i64 t4, .int .i64 t5, .int .u64 t6, .string t7, u], .int .i64 t9]) (a.tmps[14]?.getD undef) w' := hs.get 0 rfl (by kernel_rfl) rfl
        obtain ⟨A14, c14, h14, hc14, hC14, hR14⟩ := g14.reads
        replace h14 : a.tmps[14]?.getD undef = .tuple #[.agg #[.int .i64 t4, .int .i64 t5, .int .u64 t6, .string t7, .slice A14 t8.length c14], .int .i64 t9] := h14
        exact ⟨.tuple #[.agg #[.int .i64 t4, .int .i64 t5, .int .u64 t6, .string t7, .slice A14 t8.length c14], .int .i64 t9], by go_simp, _, rfl, hR14⟩
       refine rgl_keep (OneR k35 35 t8 (fun u => .agg #[.int .i64 t4, .int .i64 t5, .int .u64 t6, .string t7, u])) OneR.grows Grows.refl rfl (fun _ _ _ _ => wanted_none rfl) ?_ ?_
       ·
        intro a w' hr hs
        have g10 : OneR k35 35 t8 (fun u => .tuple #[.agg #[.int .i64 t4, .int .i64 t5, .int .u64 t6, .string t7, u], .int .i64 t9]) (a.tmps[10]?.getD undef) w' := hs.get 0 rfl (by kernel_rfl) rfl
        obtain ⟨A10, c10, h10, hc10, hC10, hR10⟩ := g10.reads
        replace h10 : a.tmps[10]?.getD undef = .tuple #[.agg #[.int .i64 t4, .int .i64 t5, .int .u64 t6, .string t7, .slice A10 t8.length c10], .int .i64 t9] := h10
        exact ⟨.agg #[.int .i64 t4, .int .i64 t5, .int .u64 t6, .string t7, .slice A10 t8.length c10], by go_simp, _, rfl, hR10⟩
       refine rgl_late (.int .i64 t9) Grows.refl rfl (fun _ _ _ _ => wanted_none rfl) ?_ ?_
       ·
        intro a w' hr hs w3
        have g10 : OneR k35 35 t8 (fun u => .tuple #[.agg #[.int .i64 t4, .int .i64 t5, .int .u64 t6, .string t7, u], .int .i64 t9]) (a.tmps[10]?.getD undef) w' := hs.get 1 rfl (by kernel_rfl) rfl
        obtain ⟨A10, c10, h10, hc10, hC10, hR10⟩ := g10.reads
        replace h10 : a.tmps[10]?.getD undef = .tuple #[.agg #[.int .i64 t4, .int .i64 t5, .int .u64 t6, .string t7, .slice A10 t8.length c10], .int .i64 t9] := h10
        go_simp
       refine rgl_run (Boxed #[.int .i64 0, .int .i64 0, .int .u64 0, .string (⟨#[]⟩ : ByteArray), .slice none 0 0] 27 w2_as.heap.size) Boxed.grows rfl (fun _ _ _ _ => wanted_none rfl) ?_ ?_
       ·
        intro a w' hr hs
        exact ⟨_, _, by go_simp, Grows.alloc _ _, Boxed.new hr.size⟩
       intro vs w3_ hr hE
       have g_ : OneR k35 35 t8 (fun u => .agg #[.int .i64 t4, .int .i64 t5, .int .u64 t6, .string t7, u]) (vs 5) w3_ := hE _ (mem_at 2 rfl)
       obtain ⟨Au51, cu51, e5, hcu51, hCu51, hRu51⟩ := g_.reads
       clear g_
       replace e5 : vs 5 = .agg #[.int .i64 t4, .int .i64 t5, .int .u64 t6, .string t7, .slice Au51 t8.length cu51] := e5
       have HCu51 := Aside0.mk hCu51
       clear hCu51
       have HRu51 := Aside0.mk hRu51
       clear hRu51
       have e6 : vs 6 = .int .i64 t9 := hE _ (mem_at 1 rfl)
       obtain ⟨b11_, e7, HXb11, hlb11⟩ := hE _ (mem_at 0 rfl)
       replace HXb11 := Aside0.mk HXb11
       have hg : Grows w2_as w3_ := Below.trans (Below.refl w2_as.heap.size w2_as).drew hr
       clear hE hr
       rw [show List.range 8 = [0, 1, 2, 3, 4, 5, 6, 7] from rfl]
       simp only [putL, slotOf, List.getElem?_toArray, List.getElem?_cons_zero, List.getElem?_cons_succ, Option.bind_some, Act.put, List.setIfInBounds_toArray, List.set_cons_succ, List.set_cons_zero, e5, e6, e7]
       clear e5 e6 e7
       have z0 := cell_at HXb11.out 0
       have f0 := free_at HXb11.out 0
       have z1 := cell_at HXb11.out 1
       have f1 := free_at HXb11.out 1
       have z2 := cell_at HXb11.out 2
       have f2 := free_at HXb11.out 2
       have z3 := cell_at HXb11.out 3
       have f3 := free_at HXb11.out 3
       have z4 := cell_at HXb11.out 4
       have f4 := free_at HXb11.out 4
       simp only [List.getElem?_toArray, List.getElem?_cons_zero, List.getElem?_cons_succ] at z0 z1 z2 z3 z4
       obtain ⟨w3_s, hw3_s⟩ : ∃ W, W = (((((w3_.setCell ⟨b11_, 0, none⟩ (.int .i64 t4)).setCell ⟨b11_, 1, none⟩ (.int .i64 t5)).setCell ⟨b11_, 2, none⟩ (.int .u64 t6)).setCell ⟨b11_, 3, none⟩ (.string t7)).setCell ⟨b11_, 4, none⟩ (.slice Au51 t8.length cu51)) := ⟨_, rfl⟩
       refine ⟨_, w3_s, rfl, by rw [hw3_s]; go_simp, ?_⟩
       clear z0 z1 z2 z3 z4 f0 f1 f2 f3 f4
       have hR_ := (Kd.R_set (Kd.R_set (Kd.R_set (Kd.R_set (Kd.R_set HRu51.out HXb11.out (by decide) 0 (.int .i64 t4)) (blk_put HXb11.out 0 (.int .i64 t4) rfl) (by decide) 1 (.int .i64 t5)) (blk_put (blk_put HXb11.out 0 (.int .i64 t4) rfl) 1 (.int .i64 t5) rfl) (by decide) 2 (.int .u64 t6)) (blk_put (blk_put (blk_put HXb11.out 0 (.int .i64 t4) rfl) 1 (.int .i64 t5) rfl) 2 (.int .u64 t6) rfl) (by decide) 3 (.string t7)) (blk_put (blk_put (blk_put (blk_put HXb11.out 0 (.int .i64 t4) rfl) 1 (.int .i64 t5) rfl) 2 (.int .u64 t6) rfl) 3 (.string t7) rfl) (by decide) 4 (.slice Au51 t8.length cu51))
       rw [← hw3_s] at hR_
       have HCu51 := Aside0.mk (Kd.R_reads' hR_).2.2
       replace HRu51 := Aside0.mk hR_
       clear hR_
       have hX_ : w3_s.heap[b11_]? = some (.cells #[.int .i64 t4, .int .i64 t5, .int .u64 t6, .string t7, .slice Au51 t8.length cu51] 27 (0, 0)) := by rw [hw3_s]; exact (blk_put (blk_put (blk_put (blk_put (blk_put HXb11.out 0 (.int .i64 t4) rfl) 1 (.int .i64 t5) rfl) 2 (.int .u64 t6) rfl) 3 (.string t7) rfl) 4 (.slice Au51 t8.length cu51) rfl)
       replace HXb11 := Aside0.mk hX_
       clear hX_
       replace hg : Grows w2_as w3_s := by rw [hw3_s]; exact (setB (setB (setB (setB (setB hg hlb11 (.int .i64 t4)) hlb11 (.int .i64 t5)) hlb11 (.int .u64 t6)) hlb11 (.string t7)) hlb11 (.slice Au51 t8.length cu51))
       clear hw3_s
       refine tail_valD (i := 9) (r := []) (w' := w3_s) 3 (.int .i64 t9) rfl rfl (wanted_none rfl) (by go_simp) ?_
       simp only [Act.put, List.setIfInBounds_toArray, List.set_cons_succ, List.set_cons_zero]
       refine tail_end ?_
       simp only [Exit.then]
       replace HCu50 := Aside0.mk (Kd.C_below HCu50.out hg)
       replace HXb1 := Aside0.mk (hg.at HXb1.out)
       replace HB := Aside0.mk (HB.out.trans (Below.mono hg HB.out.size))
       clear hg
       refine wp_seq ?_
       refine rg_regionL (N := 63) 8 [6] Grows (by kernel_rfl) (by kernel_rfl) rfl Grows.refl Grows.trans rfl rfl rfl rfl (by kernel_rfl) ?_
       rw [show List.range 8 = [0, 1, 2, 3, 4, 5, 6, 7] from rfl]
       refine rgl_call (OneC k64 t12 (fun u => u)) OneC.grows rfl rfl Try.func6 (by kernel_rfl) rfl (fun _ _ _ _ => wanted_none rfl) ?_ ?_
       ·
        intro a w' hr hs
        rw [show (#[] : Array Operand).map a.eval = #[] by simp]
        refine (chaperonlaw16_some.calls t12 _ F13.out).mono ?_
        rintro e w3 ⟨v, rfl, hN, hb⟩
        obtain ⟨A9, c9, rfl, hc9, hC9⟩ := Kd.N_reads hN
        exact ⟨_, rfl, hb, A9, c9, rfl, hc9, hC9⟩
       refine rgl_val (.agg #[.int .i64 7, .int .i64 1, .int .u64 0, .string (⟨#[67]⟩ : ByteArray), .slice Au50 ([(⟨false, (⟨#[67]⟩ : ByteArray), (-1)⟩ : S35), (⟨true, (⟨#[67]⟩ : ByteArray), 1⟩ : S35)] : List (S35)).length cu50]) Grows.refl rfl (fun _ _ _ _ => wanted_none rfl) ?_ ?_
       ·
        intro a w' hr hs
        have h1 : a.tmps[1]?.getD undef = .pointer (some ⟨b1_, 0, none⟩) := hs.out 1 (by kernel_rfl)
        have x := hr.at (at_drew HXb1.out)
        have x0 := cell_at x 0
        have x1 := cell_at x 1
        have x2 := cell_at x 2
        have x3 := cell_at x 3
        have x4 := cell_at x 4
        simp only [List.getElem?_toArray, List.getElem?_cons_zero, List.getElem?_cons_succ] at x0 x1 x2 x3 x4
        go_simp
       refine rgl_call (OneR k35 35 t18 (fun u => .agg #[.int .i64 t14, .int .i64 t15, .int .u64 t16, .string t17, u])) OneR.grows rfl rfl Try.func11 (by kernel_rfl) rfl (fun _ _ _ _ => wanted_none rfl) ?_ ?_
       ·
        intro a w' hr hs
        rw [show (#[] : Array Operand).map a.eval = #[] by simp]
        refine (chaperonlaw16_three.calls t14 t15 t16 t17 t18 _ F19.out).mono ?_
        rintro e w3 ⟨v, rfl, hR, hb⟩
        exact ⟨_, rfl, hb, OneR.of hR⟩
       refine rgl_call (OneR k35 35 t24 (fun u => .tuple #[.agg #[.int .i64 t20, .int .i64 t21, .int .u64 t22, .string t23, u], .int .i64 t25])) OneR.grows rfl rfl Try.func16 (by kernel_rfl) rfl (fun _ _ _ _ => wanted_none rfl) ?_ ?_
       ·
        intro a w' hr hs
        have g18 : OneC k64 t12 (fun u => u) (a.tmps[18]?.getD undef) w' := hs.get 2 rfl (by kernel_rfl) rfl
        obtain ⟨A18, c18, h18, hc18, hC18⟩ := g18.reads
        replace h18 : a.tmps[18]?.getD undef = .slice A18 t12.length c18 := h18
        have h19 : a.tmps[19]?.getD undef = .agg #[.int .i64 7, .int .i64 1, .int .u64 0, .string (⟨#[67]⟩ : ByteArray), .slice Au50 ([(⟨false, (⟨#[67]⟩ : ByteArray), (-1)⟩ : S35), (⟨true, (⟨#[67]⟩ : ByteArray), 1⟩ : S35)] : List (S35)).length cu50] := hs.get 1 rfl (by kernel_rfl) rfl
        have g20 : OneR k35 35 t18 (fun u => .agg #[.int .i64 t14, .int .i64 t15, .int .u64 t16, .string t17, u]) (a.tmps[20]?.getD undef) w' := hs.get 0 rfl (by kernel_rfl) rfl
        obtain ⟨A20, c20, h20, hc20, hC20, hR20⟩ := g20.reads
        replace h20 : a.tmps[20]?.getD undef = .agg #[.int .i64 t14, .int .i64 t15, .int .u64 t16, .string t17, .slice A20 t18.length c20] := h20
        rw [show (#[Operand.tmp 18, Operand.tmp 19, Operand.const (.string (⟨#[109]⟩ : ByteArray)), Operand.const (.int .i64 0), Operand.tmp 20, Operand.const (.bool false)] : Array Operand).map a.eval = #[.slice A18 t12.length c18, .agg #[.int .i64 7, .int .i64 1, .int .u64 0, .string (⟨#[67]⟩ : ByteArray), .slice Au50 ([(⟨false, (⟨#[67]⟩ : ByteArray), (-1)⟩ : S35), (⟨true, (⟨#[67]⟩ : ByteArray), 1⟩ : S35)] : List (S35)).length cu50], .string (⟨#[109]⟩ : ByteArray), .int .i64 0, .agg #[.int .i64 t14, .int .i64 t15, .int .u64 t16, .string t17, .slice A20 t18.length c20], .bool false] by simp [Act.eval, h18, h19, h20]]
        refine (coerce_Inward.calls k A18 c18 t12 7 1 0 (⟨#[67]⟩ : ByteArray) Au50 cu50 ([(⟨false, (⟨#[67]⟩ : ByteArray), (-1)⟩ : S35), (⟨true, (⟨#[67]⟩ : ByteArray), 1⟩ : S35)] : List (S35)) (⟨#[109]⟩ : ByteArray) 0 t14 t15 t16 t17 A20 c20 t18 false t20 t21 t22 t23 t24 t25 _ hC18 hc18 (Kd.C_below (Kd.C_drew HCu50.out) hr) hcu50 hC20 hc20 F26.out).mono ?_
        rintro e w3 ⟨v, rfl, hR, hb⟩
        exact ⟨_, rfl, hb, OneR.of hR⟩
       refine rgl_keep (OneR k35 35 t24 (fun u => .tuple #[.agg #[.int .i64 t20, .int .i64 t21, .int .u64 t22, .string t23, u], .int .i64 t25])) OneR.grows Grows.refl rfl (fun _ _ _ _ => wanted_none rfl) ?_ ?_
       ·
        intro a w' hr hs
        have g21 : OneR k35 35 t24 (fun u => .tuple #[.agg #[.int .i64 t20, .int .i64 t21, .int .u64 t22, .string t23, u], .int .i64 t25]) (a.tmps[21]?.getD undef) w' := hs.get 0 rfl (by kernel_rfl) rfl
        obtain ⟨A21, c21, h21, hc21, hC21, hR21⟩ := g21.reads
        replace h21 : a.tmps[21]?.getD undef = .tuple #[.agg #[.int .i64 t20, .int .i64 t21, .int .u64 t22, .string t23, .slice A21 t24.length c21], .int .i64 t25] := h21
        exact ⟨.tuple #[.agg #[.int .i64 t20, .int .i64 t21, .int .u64 t22, .string t23, .slice A21 t24.length c21], .int .i64 t25], by go_simp, _, rfl, hR21⟩
       refine rgl_keep (OneR k35 35 t24 (fun u => .agg #[.int .i64 t20, .int .i64 t21, .int .u64 t22, .string t23, u])) OneR.grows Grows.refl rfl (fun _ _ _ _ => wanted_none rfl) ?_ ?_
       ·
        intro a w' hr hs
        have g17 : OneR k35 35 t24 (fun u => .tuple #[.agg #[.int .i64 t20, .int .i64 t21, .int .u64 t22, .string t23, u], .int .i64 t25]) (a.tmps[17]?.getD undef) w' := hs.get 0 rfl (by kernel_rfl) rfl
        obtain ⟨A17, c17, h17, hc17, hC17, hR17⟩ := g17.reads
        replace h17 : a.tmps[17]?.getD undef = .tuple #[.agg #[.int .i64 t20, .int .i64 t21, .int .u64 t22, .string t23, .slice A17 t24.length c17], .int .i64 t25] := h17
        exact ⟨.agg #[.int .i64 t20, .int .i64 t21, .int .u64 t22, .string t23, .slice A17 t24.length c17], by go_simp, _, rfl, hR17⟩
       refine rgl_late (.int .i64 t25) Grows.refl rfl (fun _ _ _ _ => wanted_none rfl) ?_ ?_
       ·
        intro a w' hr hs w3
        have g17 : OneR k35 35 t24 (fun u => .tuple #[.agg #[.int .i64 t20, .int .i64 t21, .int .u64 t22, .string t23, u], .int .i64 t25]) (a.tmps[17]?.getD undef) w' := hs.get 1 rfl (by kernel_rfl) rfl
        obtain ⟨A17, c17, h17, hc17, hC17, hR17⟩ := g17.reads
        replace h17 : a.tmps[17]?.getD undef = .tuple #[.agg #[.int .i64 t20, .int .i64 t21, .int .u64 t22, .string t23, .slice A17 t24.length c17], .int .i64 t25] := h17
        go_simp
       refine rgl_run (Boxed #[.int .i64 0, .int .i64 0, .int .u64 0, .string (⟨#[]⟩ : ByteArray), .slice none 0 0] 27 w3_s.heap.size) Boxed.grows rfl (fun _ _ _ _ => wanted_none rfl) ?_ ?_
       ·
        intro a w' hr hs
        exact ⟨_, _, by go_simp, Grows.alloc _ _, Boxed.new hr.size⟩
       intro vs w4_ hr hE
       have g_ : OneR k35 35 t24 (fun u => .agg #[.int .i64 t20, .int .i64 t21, .int .u64 t22, .string t23, u]) (vs 5) w4_ := hE _ (mem_at 2 rfl)
       obtain ⟨Au52, cu52, e5, hcu52, hCu52, hRu52⟩ := g_.reads
       clear g_
       replace e5 : vs 5 = .agg #[.int .i64 t20, .int .i64 t21, .int .u64 t22, .string t23, .slice Au52 t24.length cu52] := e5
       have HCu52 := Aside0.mk hCu52
       clear hCu52
       have HRu52 := Aside0.mk hRu52
       clear hRu52
       have e6 : vs 6 = .int .i64 t25 := hE _ (mem_at 1 rfl)
       obtain ⟨b27_, e7, HXb27, hlb27⟩ := hE _ (mem_at 0 rfl)
       replace HXb27 := Aside0.mk HXb27
       have hg : Grows w3_s w4_ := Below.trans (Below.refl w3_s.heap.size w3_s).drew hr
       clear hE hr
       rw [show List.range 8 = [0, 1, 2, 3, 4, 5, 6, 7] from rfl]
       simp only [putL, slotOf, List.getElem?_toArray, List.getElem?_cons_zero, List.getElem?_cons_succ, Option.bind_some, Act.put, List.setIfInBounds_toArray, List.set_cons_succ, List.set_cons_zero, e5, e6, e7]
       clear e5 e6 e7
       have z0 := cell_at HXb27.out 0
       have f0 := free_at HXb27.out 0
       have z1 := cell_at HXb27.out 1
       have f1 := free_at HXb27.out 1
       have z2 := cell_at HXb27.out 2
       have f2 := free_at HXb27.out 2
       have z3 := cell_at HXb27.out 3
       have f3 := free_at HXb27.out 3
       have z4 := cell_at HXb27.out 4
       have f4 := free_at HXb27.out 4
       simp only [List.getElem?_toArray, List.getElem?_cons_zero, List.getElem?_cons_succ] at z0 z1 z2 z3 z4
       obtain ⟨w4_s, hw4_s⟩ : ∃ W, W = (((((w4_.setCell ⟨b27_, 0, none⟩ (.int .i64 t20)).setCell ⟨b27_, 1, none⟩ (.int .i64 t21)).setCell ⟨b27_, 2, none⟩ (.int .u64 t22)).setCell ⟨b27_, 3, none⟩ (.string t23)).setCell ⟨b27_, 4, none⟩ (.slice Au52 t24.length cu52)) := ⟨_, rfl⟩
       refine ⟨_, w4_s, rfl, by rw [hw4_s]; go_simp, ?_⟩
       clear z0 z1 z2 z3 z4 f0 f1 f2 f3 f4
       have hR_ := (Kd.R_set (Kd.R_set (Kd.R_set (Kd.R_set (Kd.R_set HRu52.out HXb27.out (by decide) 0 (.int .i64 t20)) (blk_put HXb27.out 0 (.int .i64 t20) rfl) (by decide) 1 (.int .i64 t21)) (blk_put (blk_put HXb27.out 0 (.int .i64 t20) rfl) 1 (.int .i64 t21) rfl) (by decide) 2 (.int .u64 t22)) (blk_put (blk_put (blk_put HXb27.out 0 (.int .i64 t20) rfl) 1 (.int .i64 t21) rfl) 2 (.int .u64 t22) rfl) (by decide) 3 (.string t23)) (blk_put (blk_put (blk_put (blk_put HXb27.out 0 (.int .i64 t20) rfl) 1 (.int .i64 t21) rfl) 2 (.int .u64 t22) rfl) 3 (.string t23) rfl) (by decide) 4 (.slice Au52 t24.length cu52))
       rw [← hw4_s] at hR_
       have HCu52 := Aside0.mk (Kd.R_reads' hR_).2.2
       replace HRu52 := Aside0.mk hR_
       clear hR_
       have hX_ : w4_s.heap[b27_]? = some (.cells #[.int .i64 t20, .int .i64 t21, .int .u64 t22, .string t23, .slice Au52 t24.length cu52] 27 (0, 0)) := by rw [hw4_s]; exact (blk_put (blk_put (blk_put (blk_put (blk_put HXb27.out 0 (.int .i64 t20) rfl) 1 (.int .i64 t21) rfl) 2 (.int .u64 t22) rfl) 3 (.string t23) rfl) 4 (.slice Au52 t24.length cu52) rfl)
       replace HXb27 := Aside0.mk hX_
       clear hX_
       replace hg : Grows w3_s w4_s := by rw [hw4_s]; exact (setB (setB (setB (setB (setB hg hlb27 (.int .i64 t20)) hlb27 (.int .i64 t21)) hlb27 (.int .u64 t22)) hlb27 (.string t23)) hlb27 (.slice Au52 t24.length cu52))
       clear hw4_s
       refine tail_valD (i := 9) (r := []) (w' := w4_s) 5 (.int .i64 t25) rfl rfl (wanted_none rfl) (by go_simp) ?_
       simp only [Act.put, List.setIfInBounds_toArray, List.set_cons_succ, List.set_cons_zero]
       refine tail_end ?_
       simp only [Exit.then]
       replace HCu50 := Aside0.mk (Kd.C_below HCu50.out hg)
       replace HCu51 := Aside0.mk (Kd.C_below HCu51.out hg)
       replace HXb1 := Aside0.mk (hg.at HXb1.out)
       replace HXb11 := Aside0.mk (hg.at HXb11.out)
       replace HB := Aside0.mk (HB.out.trans (Below.mono hg HB.out.size))
       clear hg
       refine wp_seq ?_
       refine rg_region (N := 63) 40 Grows (by kernel_rfl) (by kernel_rfl) rfl Grows.refl Grows.trans ?_
       rw [show List.range 40 = [0, 1, 2, 3, 4, 5, 6, 7, 8, 9, 10, 11, 12, 13, 14, 15, 16, 17, 18, 19, 20, 21, 22, 23, 24, 25, 26, 27, 28, 29, 30, 31, 32, 33, 34, 35, 36, 37, 38, 39] from rfl]
       refine rg_call (fun v _ => v = .agg #[.int .i64 7, .int .i64 1, .int .u64 0, .string (⟨#[69]⟩ : ByteArray), .slice none 0 0]) (fun _ _ _ _ h => h) rfl rfl Try.func9 (by kernel_rfl) rfl (fun _ _ _ _ => wanted_none rfl) ?_ ?_
       ·
        intro a w' hr hs
        rw [show (#[Operand.const (.string (⟨#[69]⟩ : ByteArray)), Operand.const (.slice none 0 0)] : Array Operand).map a.eval = #[.string (⟨#[69]⟩ : ByteArray), .slice none 0 0] by simp [Act.eval]]
        refine (chaperonlaw16_awake.obj_is _ _ _ _ _).mono ?_
        rintro e w3 ⟨rfl, hb⟩
        exact ⟨_, rfl, hb, rfl⟩
       refine rg_call (fun v _ => v = .agg #[.bool false, .string (⟨#[69]⟩ : ByteArray), .int .i64 (-2)]) (fun _ _ _ _ h => h) rfl rfl Try.func10 (by kernel_rfl) rfl (fun _ _ _ _ => wanted_none rfl) ?_ ?_
       ·
        intro a w' hr hs
        rw [show (#[Operand.const (.string (⟨#[69]⟩ : ByteArray)), Operand.const (.int .i64 (-2))] : Array Operand).map a.eval = #[.string (⟨#[69]⟩ : ByteArray), .int .i64 (-2)] by simp [Act.eval]]
        refine (chaperonlaw16_in.calls (⟨#[69]⟩ : ByteArray) (-2) false (⟨#[69]⟩ : ByteArray) (-2) _ rfl).mono ?_
        rintro e w3 ⟨rfl, hb⟩
        exact ⟨_, rfl, hb, rfl⟩
       refine rg_call (fun v _ => v = .agg #[.bool true, .string (⟨#[68]⟩ : ByteArray), .int .i64 2]) (fun _ _ _ _ h => h) rfl rfl Try.func17 (by kernel_rfl) rfl (fun _ _ _ _ => wanted_none rfl) ?_ ?_
       ·
        intro a w' hr hs
        rw [show (#[Operand.const (.string (⟨#[68]⟩ : ByteArray)), Operand.const (.int .i64 2)] : Array Operand).map a.eval = #[.string (⟨#[68]⟩ : ByteArray), .int .i64 2] by simp [Act.eval]]
        refine (chaperonlaw16_out.calls (⟨#[68]⟩ : ByteArray) 2 true (⟨#[68]⟩ : ByteArray) 2 _ rfl).mono ?_
        rintro e w3 ⟨rfl, hb⟩
        exact ⟨_, rfl, hb, rfl⟩
       refine rg_litR k35 35 ([(⟨false, (⟨#[69]⟩ : ByteArray), (-2)⟩ : S35), (⟨true, (⟨#[68]⟩ : ByteArray), 2⟩ : S35)] : List (S35)) rfl rfl (fun _ _ _ _ => wanted_none rfl) (by simp) ?_ ?_
       ·
        intro a w' hr hs
        have h25 : a.tmps[25]?.getD undef = .agg #[.bool false, .string (⟨#[69]⟩ : ByteArray), .int .i64 (-2)] := hs.get 1 rfl (by kernel_rfl) rfl
        have h26 : a.tmps[26]?.getD undef = .agg #[.bool true, .string (⟨#[68]⟩ : ByteArray), .int .i64 2] := hs.get 0 rfl (by kernel_rfl) rfl
        refine ⟨[.bool false, .string (⟨#[69]⟩ : ByteArray), .int .i64 (-2), .bool true, .string (⟨#[68]⟩ : ByteArray), .int .i64 2], by go_simp <;> rfl, ?_⟩
        exact Reps.c3 (show Kd.M k35 _ _ _ (⟨false, (⟨#[69]⟩ : ByteArray), (-2)⟩ : S35) [.bool false, .string (⟨#[69]⟩ : ByteArray), .int .i64 (-2)] from k35_mkM _ _ _ _) (Reps.c3 (show Kd.M k35 _ _ _ (⟨true, (⟨#[68]⟩ : ByteArray), 2⟩ : S35) [.bool true, .string (⟨#[68]⟩ : ByteArray), .int .i64 2] from k35_mkM _ _ _ _) (Reps.none _ _))
       refine rg_call (OneR k35 35 ([(⟨false, (⟨#[69]⟩ : ByteArray), (-2)⟩ : S35), (⟨true, (⟨#[68]⟩ : ByteArray), 2⟩ : S35)] : List (S35)) (fun u => .agg #[.int .i64 7, .int .i64 1, .int .u64 0, .string (⟨#[69]⟩ : ByteArray), u])) OneR.grows rfl rfl Try.func9 (by kernel_rfl) rfl (fun _ _ _ _ => wanted_none rfl) ?_ ?_
       ·
        intro a w' hr hs
        have g27 : OneR k35 35 ([(⟨false, (⟨#[69]⟩ : ByteArray), (-2)⟩ : S35), (⟨true, (⟨#[68]⟩ : ByteArray), 2⟩ : S35)] : List (S35)) (fun u => u) (a.tmps[27]?.getD undef) w' := hs.get 0 rfl (by kernel_rfl) rfl
        obtain ⟨A27, c27, h27, hc27, hC27, hR27⟩ := g27.reads
        replace h27 : a.tmps[27]?.getD undef = .slice A27 ([(⟨false, (⟨#[69]⟩ : ByteArray), (-2)⟩ : S35), (⟨true, (⟨#[68]⟩ : ByteArray), 2⟩ : S35)] : List (S35)).length c27 := h27
        rw [show (#[Operand.const (.string (⟨#[69]⟩ : ByteArray)), Operand.tmp 27] : Array Operand).map a.eval = #[.string (⟨#[69]⟩ : ByteArray), .slice A27 ([(⟨false, (⟨#[69]⟩ : ByteArray), (-2)⟩ : S35), (⟨true, (⟨#[68]⟩ : ByteArray), 2⟩ : S35)] : List (S35)).length c27] by simp [Act.eval, h27]]
        refine (chaperonlaw16_awake.obj_is _ _ _ _ _).mono ?_
        rintro e w3 ⟨rfl, hb⟩
        exact ⟨_, rfl, hb, _, rfl, Kd.R_below hR27 hb⟩
       refine rg_call (fun v _ => v = .bool true) (fun _ _ _ _ h => h) rfl rfl Try.func12 (by kernel_rfl) rfl (fun _ _ _ _ => wanted_none rfl) ?_ ?_
       ·
        intro a w' hr hs
        have h24 : a.tmps[24]?.getD undef = .agg #[.int .i64 7, .int .i64 1, .int .u64 0, .string (⟨#[69]⟩ : ByteArray), .slice none 0 0] := hs.get 4 rfl (by kernel_rfl) rfl
        have g28 : OneR k35 35 ([(⟨false, (⟨#[69]⟩ : ByteArray), (-2)⟩ : S35), (⟨true, (⟨#[68]⟩ : ByteArray), 2⟩ : S35)] : List (S35)) (fun u => .agg #[.int .i64 7, .int .i64 1, .int .u64 0, .string (⟨#[69]⟩ : ByteArray), u]) (a.tmps[28]?.getD undef) w' := hs.get 0 rfl (by kernel_rfl) rfl
        obtain ⟨A28, c28, h28, hc28, hC28, hR28⟩ := g28.reads
        replace h28 : a.tmps[28]?.getD undef = .agg #[.int .i64 7, .int .i64 1, .int .u64 0, .string (⟨#[69]⟩ : ByteArray), .slice A28 ([(⟨false, (⟨#[69]⟩ : ByteArray), (-2)⟩ : S35), (⟨true, (⟨#[68]⟩ : ByteArray), 2⟩ : S35)] : List (S35)).length c28] := h28
        rw [show (#[Operand.tmp 24, Operand.const (.string (⟨#[69]⟩ : ByteArray)), Operand.const (.string (⟨#[68]⟩ : ByteArray)), Operand.const (.int .i64 2), Operand.tmp 28, Operand.const (.int .i64 0)] : Array Operand).map a.eval = #[.agg #[.int .i64 7, .int .i64 1, .int .u64 0, .string (⟨#[69]⟩ : ByteArray), .slice none 0 0], .string (⟨#[69]⟩ : ByteArray), .string (⟨#[68]⟩ : ByteArray), .int .i64 2, .agg #[.int .i64 7, .int .i64 1, .int .u64 0, .string (⟨#[69]⟩ : ByteArray), .slice A28 ([(⟨false, (⟨#[69]⟩ : ByteArray), (-2)⟩ : S35), (⟨true, (⟨#[68]⟩ : ByteArray), 2⟩ : S35)] : List (S35)).length c28], .int .i64 0] by simp [Act.eval, h24, h28]]
        refine (chaperonlaw16_casts.calls k 7 1 0 (⟨#[69]⟩ : ByteArray) none 0 ([] : List (S35)) (⟨#[69]⟩ : ByteArray) (⟨#[68]⟩ : ByteArray) 2 7 1 0 (⟨#[69]⟩ : ByteArray) A28 c28 ([(⟨false, (⟨#[69]⟩ : ByteArray), (-2)⟩ : S35), (⟨true, (⟨#[68]⟩ : ByteArray), 2⟩ : S35)] : List (S35)) 0 true _ (Kd.C_nil _ _) (Nat.le_refl _) hC28 hc28 F29.out).mono ?_
        rintro e w3 ⟨rfl, hb⟩
        exact ⟨_, rfl, hb, rfl⟩
       refine rg_val (.bool true) Grows.refl rfl (fun _ _ _ _ => wanted_none rfl) ?_ ?_
       ·
        intro a w' hr hs
        have h29 : a.tmps[29]?.getD undef = .bool true := hs.get 0 rfl (by kernel_rfl) rfl
        go_simp
       refine rg_call (OneR k35 35 t34 (fun u => .agg #[.int .i64 t30, .int .i64 t31, .int .u64 t32, .string t33, u])) OneR.grows rfl rfl Try.func11 (by kernel_rfl) rfl (fun a w hr hs => on_guard (g := 6) (t := 30) rfl rfl (hs.get 0 rfl (by kernel_rfl) rfl)) ?_ ?_
       ·
        intro a w' hr hs
        rw [show (#[] : Array Operand).map a.eval = #[] by simp]
        refine (chaperonlaw16_three.calls t30 t31 t32 t33 t34 _ F35.out).mono ?_
        rintro e w3 ⟨v, rfl, hR, hb⟩
        exact ⟨_, rfl, hb, OneR.of hR⟩
       refine rg_val (.agg #[.int .i64 0, .int .i64 0, .int .u64 0, .string (⟨#[]⟩ : ByteArray), .slice none 0 0]) Grows.refl rfl (fun a w hr hs => on_guard (g := 6) (t := 30) rfl rfl (hs.get 1 rfl (by kernel_rfl) rfl)) ?_ ?_
       ·
        intro a w' hr hs
        go_simp
       refine rg_call (fun v _ => v = .bool true) (fun _ _ _ _ h => h) rfl rfl Try.func12 (by kernel_rfl) rfl (fun a w hr hs => on_guard (g := 6) (t := 30) rfl rfl (hs.get 2 rfl (by kernel_rfl) rfl)) ?_ ?_
       ·
        intro a w' hr hs
        have g31 : OneR k35 35 t34 (fun u => .agg #[.int .i64 t30, .int .i64 t31, .int .u64 t32, .string t33, u]) (a.tmps[31]?.getD undef) w' := hs.get 1 rfl (by kernel_rfl) rfl
        obtain ⟨A31, c31, h31, hc31, hC31, hR31⟩ := g31.reads
        replace h31 : a.tmps[31]?.getD undef = .agg #[.int .i64 t30, .int .i64 t31, .int .u64 t32, .string t33, .slice A31 t34.length c31] := h31
        have h32 : a.tmps[32]?.getD undef = .agg #[.int .i64 0, .int .i64 0, .int .u64 0, .string (⟨#[]⟩ : ByteArray), .slice none 0 0] := hs.get 0 rfl (by kernel_rfl) rfl
        rw [show (#[Operand.tmp 31, Operand.const (.string (⟨#[63]⟩ : ByteArray)), Operand.const (.string (⟨#[115, 116, 114]⟩ : ByteArray)), Operand.const (.int .i64 1), Operand.tmp 32, Operand.const (.int .i64 1)] : Array Operand).map a.eval = #[.agg #[.int .i64 t30, .int .i64 t31, .int .u64 t32, .string t33, .slice A31 t34.length c31], .string (⟨#[63]⟩ : ByteArray), .string (⟨#[115, 116, 114]⟩ : ByteArray), .int .i64 1, .agg #[.int .i64 0, .int .i64 0, .int .u64 0, .string (⟨#[]⟩ : ByteArray), .slice none 0 0], .int .i64 1] by simp [Act.eval, h31, h32]]
        refine (chaperonlaw16_casts.calls k t30 t31 t32 t33 A31 c31 t34 (⟨#[63]⟩ : ByteArray) (⟨#[115, 116, 114]⟩ : ByteArray) 1 0 0 0 (⟨#[]⟩ : ByteArray) none 0 ([] : List (S35)) 1 true _ hC31 hc31 (Kd.C_nil _ _) (Nat.le_refl _) F37.out).mono ?_
        rintro e w3 ⟨rfl, hb⟩
        exact ⟨_, rfl, hb, rfl⟩
       refine rg_val (.bool true) Grows.refl rfl (fun _ _ _ _ => wanted_none rfl) ?_ ?_
       ·
        intro a w' hr hs
        have h30 : a.tmps[30]?.getD undef = .bool true := hs.get 3 rfl (by kernel_rfl) rfl
        have h33 : a.tmps[33]?.getD undef = .bool true := hs.get 0 rfl (by kernel_rfl) rfl
        go_simp
       refine rg_val (.bool true) Grows.refl rfl (fun _ _ _ _ => wanted_none rfl) ?_ ?_
       ·
        intro a w' hr hs
        have h34 : a.tmps[34]?.getD undef = .bool true := hs.get 0 rfl (by kernel_rfl) rfl
        go_simp
       refine rg_call (fun v _ => v = .agg #[.bool false, .string (⟨#[68]⟩ : ByteArray), .int .i64 1]) (fun _ _ _ _ h => h) rfl rfl Try.func10 (by kernel_rfl) rfl (fun a w hr hs => on_guard (g := 11) (t := 35) rfl rfl (hs.get 0 rfl (by kernel_rfl) rfl)) ?_ ?_
       ·
        intro a w' hr hs
        rw [show (#[Operand.const (.string (⟨#[68]⟩ : ByteArray)), Operand.const (.int .i64 1)] : Array Operand).map a.eval = #[.string (⟨#[68]⟩ : ByteArray), .int .i64 1] by simp [Act.eval]]
        refine (chaperonlaw16_in.calls (⟨#[68]⟩ : ByteArray) 1 false (⟨#[68]⟩ : ByteArray) 1 _ rfl).mono ?_
        rintro e w3 ⟨rfl, hb⟩
        exact ⟨_, rfl, hb, rfl⟩
       refine rg_litR k35 35 ([(⟨false, (⟨#[68]⟩ : ByteArray), 1⟩ : S35)] : List (S35)) rfl rfl (fun a w hr hs => on_guard (g := 11) (t := 35) rfl rfl (hs.get 1 rfl (by kernel_rfl) rfl)) (by simp) ?_ ?_
       ·
        intro a w' hr hs
        have h36 : a.tmps[36]?.getD undef = .agg #[.bool false, .string (⟨#[68]⟩ : ByteArray), .int .i64 1] := hs.get 0 rfl (by kernel_rfl) rfl
        refine ⟨[.bool false, .string (⟨#[68]⟩ : ByteArray), .int .i64 1], by go_simp <;> rfl, ?_⟩
        exact Reps.c3 (show Kd.M k35 _ _ _ (⟨false, (⟨#[68]⟩ : ByteArray), 1⟩ : S35) [.bool false, .string (⟨#[68]⟩ : ByteArray), .int .i64 1] from k35_mkM _ _ _ _) (Reps.none _ _)
       refine rg_call (OneR k35 35 ([(⟨false, (⟨#[68]⟩ : ByteArray), 1⟩ : S35)] : List (S35)) (fun u => .agg #[.int .i64 7, .int .i64 1, .int .u64 0, .string (⟨#[69]⟩ : ByteArray), u])) OneR.grows rfl rfl Try.func9 (by kernel_rfl) rfl (fun a w hr hs => on_guard (g := 11) (t := 35) rfl rfl (hs.get 2 rfl (by kernel_rfl) rfl)) ?_ ?_
       ·
        intro a w' hr hs
        have g37 : OneR k35 35 ([(⟨false, (⟨#[68]⟩ : ByteArray), 1⟩ : S35)] : List (S35)) (fun u => u) (a.tmps[37]?.getD undef) w' := hs.get 0 rfl (by kernel_rfl) rfl
        obtain ⟨A37, c37, h37, hc37, hC37, hR37⟩ := g37.reads
        replace h37 : a.tmps[37]?.getD undef = .slice A37 ([(⟨false, (⟨#[68]⟩ : ByteArray), 1⟩ : S35)] : List (S35)).length c37 := h37
        rw [show (#[Operand.const (.string (⟨#[69]⟩ : ByteArray)), Operand.tmp 37] : Array Operand).map a.eval = #[.string (⟨#[69]⟩ : ByteArray), .slice A37 ([(⟨false, (⟨#[68]⟩ : ByteArray), 1⟩ : S35)] : List (S35)).length c37] by simp [Act.eval, h37]]
        refine (chaperonlaw16_awake.obj_is _ _ _ _ _).mono ?_
        rintro e w3 ⟨rfl, hb⟩
        exact ⟨_, rfl, hb, _, rfl, Kd.R_below hR37 hb⟩
       refine rg_val (.agg #[.int .i64 0, .int .i64 0, .int .u64 0, .string (⟨#[]⟩ : ByteArray), .slice none 0 0]) Grows.refl rfl (fun a w hr hs => on_guard (g := 11) (t := 35) rfl rfl (hs.get 3 rfl (by kernel_rfl) rfl)) ?_ ?_
       ·
        intro a w' hr hs
        go_simp
       refine rg_call (fun v _ => v = .bool true) (fun _ _ _ _ h => h) rfl rfl Try.func13 (by kernel_rfl) rfl (fun a w hr hs => on_guard (g := 11) (t := 35) rfl rfl (hs.get 4 rfl (by kernel_rfl) rfl)) ?_ ?_
       ·
        intro a w' hr hs
        have g38 : OneR k35 35 ([(⟨false, (⟨#[68]⟩ : ByteArray), 1⟩ : S35)] : List (S35)) (fun u => .agg #[.int .i64 7, .int .i64 1, .int .u64 0, .string (⟨#[69]⟩ : ByteArray), u]) (a.tmps[38]?.getD undef) w' := hs.get 1 rfl (by kernel_rfl) rfl
        obtain ⟨A38, c38, h38, hc38, hC38, hR38⟩ := g38.reads
        replace h38 : a.tmps[38]?.getD undef = .agg #[.int .i64 7, .int .i64 1, .int .u64 0, .string (⟨#[69]⟩ : ByteArray), .slice A38 ([(⟨false, (⟨#[68]⟩ : ByteArray), 1⟩ : S35)] : List (S35)).length c38] := h38
        have h39 : a.tmps[39]?.getD undef = .agg #[.int .i64 0, .int .i64 0, .int .u64 0, .string (⟨#[]⟩ : ByteArray), .slice none 0 0] := hs.get 0 rfl (by kernel_rfl) rfl
        rw [show (#[Operand.tmp 38, Operand.const (.string (⟨#[69]⟩ : ByteArray)), Operand.const (.int .i64 5), Operand.tmp 39, Operand.const (.int .i64 5)] : Array Operand).map a.eval = #[.agg #[.int .i64 7, .int .i64 1, .int .u64 0, .string (⟨#[69]⟩ : ByteArray), .slice A38 ([(⟨false, (⟨#[68]⟩ : ByteArray), 1⟩ : S35)] : List (S35)).length c38], .string (⟨#[69]⟩ : ByteArray), .int .i64 5, .agg #[.int .i64 0, .int .i64 0, .int .u64 0, .string (⟨#[]⟩ : ByteArray), .slice none 0 0], .int .i64 5] by simp [Act.eval, h38, h39]]
        refine (chaperonlaw16_enters.calls k 7 1 0 (⟨#[69]⟩ : ByteArray) A38 c38 ([(⟨false, (⟨#[68]⟩ : ByteArray), 1⟩ : S35)] : List (S35)) (⟨#[69]⟩ : ByteArray) 5 0 0 0 (⟨#[]⟩ : ByteArray) none 0 ([] : List (S35)) 5 true _ hC38 hc38 (Kd.C_nil _ _) (Nat.le_refl _) F39.out).mono ?_
        rintro e w3 ⟨rfl, hb⟩
        exact ⟨_, rfl, hb, rfl⟩
       refine rg_val (.bool true) Grows.refl rfl (fun _ _ _ _ => wanted_none rfl) ?_ ?_
       ·
        intro a w' hr hs
        have h35 : a.tmps[35]?.getD undef = .bool true := hs.get 5 rfl (by kernel_rfl) rfl
        have h40 : a.tmps[40]?.getD undef = .bool true := hs.get 0 rfl (by kernel_rfl) rfl
        go_simp
       refine rg_val (.bool true) Grows.refl rfl (fun _ _ _ _ => wanted_none rfl) ?_ ?_
       ·
        intro a w' hr hs
        have h41 : a.tmps[41]?.getD undef = .bool true := hs.get 0 rfl (by kernel_rfl) rfl
        go_simp
       refine rg_val (.int .i64 t9) Grows.refl rfl (fun a w hr hs => on_guard (g := 18) (t := 42) rfl rfl (hs.get 0 rfl (by kernel_rfl) rfl)) ?_ ?_
       ·
        intro a w' hr hs
        have h3 : a.tmps[3]?.getD undef = .int .i64 t9 := hs.out 3 (by kernel_rfl)
        go_simp
       refine rg_val (.bool true) Grows.refl rfl (fun a w hr hs => on_guard (g := 18) (t := 42) rfl rfl (hs.get 1 rfl (by kernel_rfl) rfl)) ?_ ?_
       ·
        intro a w' hr hs
        have h43 : a.tmps[43]?.getD undef = .int .i64 t9 := hs.get 0 rfl (by kernel_rfl) rfl
        go_simp
       refine rg_val (.bool true) Grows.refl rfl (fun _ _ _ _ => wanted_none rfl) ?_ ?_
       ·
        intro a w' hr hs
        have h42 : a.tmps[42]?.getD undef = .bool true := hs.get 2 rfl (by kernel_rfl) rfl
        have h44 : a.tmps[44]?.getD undef = .bool true := hs.get 0 rfl (by kernel_rfl) rfl
        go_simp
       refine rg_val (.bool true) Grows.refl rfl (fun _ _ _ _ => wanted_none rfl) ?_ ?_
       ·
        intro a w' hr hs
        have h45 : a.tmps[45]?.getD undef = .bool true := hs.get 0 rfl (by kernel_rfl) rfl
        go_simp
       refine rg_val (.agg #[.int .i64 t4, .int .i64 t5, .int .u64 t6, .string t7, .slice Au51 t8.length cu51]) Grows.refl rfl (fun a w hr hs => on_guard (g := 22) (t := 46) rfl rfl (hs.get 0 rfl (by kernel_rfl) rfl)) ?_ ?_
       ·
        intro a w' hr hs
        have h2 : a.tmps[2]?.getD undef = .pointer (some ⟨b11_, 0, none⟩) := hs.out 2 (by kernel_rfl)
        have x := hr.at (at_drew HXb11.out)
        have x0 := cell_at x 0
        have x1 := cell_at x 1
        have x2 := cell_at x 2
        have x3 := cell_at x 3
        have x4 := cell_at x 4
        simp only [List.getElem?_toArray, List.getElem?_cons_zero, List.getElem?_cons_succ] at x0 x1 x2 x3 x4
        go_simp
       refine rg_call (fun v _ => v = .agg #[.bool false, .string (⟨#[68]⟩ : ByteArray), .int .i64 (-1)]) (fun _ _ _ _ h => h) rfl rfl Try.func10 (by kernel_rfl) rfl (fun a w hr hs => on_guard (g := 22) (t := 46) rfl rfl (hs.get 1 rfl (by kernel_rfl) rfl)) ?_ ?_
       ·
        intro a w' hr hs
        rw [show (#[Operand.const (.string (⟨#[68]⟩ : ByteArray)), Operand.const (.int .i64 (-1))] : Array Operand).map a.eval = #[.string (⟨#[68]⟩ : ByteArray), .int .i64 (-1)] by simp [Act.eval]]
        refine (chaperonlaw16_in.calls (⟨#[68]⟩ : ByteArray) (-1) false (⟨#[68]⟩ : ByteArray) (-1) _ rfl).mono ?_
        rintro e w3 ⟨rfl, hb⟩
        exact ⟨_, rfl, hb, rfl⟩
       refine rg_call (fun v _ => v = .agg #[.bool true, .string (⟨#[68]⟩ : ByteArray), .int .i64 1]) (fun _ _ _ _ h => h) rfl rfl Try.func17 (by kernel_rfl) rfl (fun a w hr hs => on_guard (g := 22) (t := 46) rfl rfl (hs.get 2 rfl (by kernel_rfl) rfl)) ?_ ?_
       ·
        intro a w' hr hs
        rw [show (#[Operand.const (.string (⟨#[68]⟩ : ByteArray)), Operand.const (.int .i64 1)] : Array Operand).map a.eval = #[.string (⟨#[68]⟩ : ByteArray), .int .i64 1] by simp [Act.eval]]
        refine (chaperonlaw16_out.calls (⟨#[68]⟩ : ByteArray) 1 true (⟨#[68]⟩ : ByteArray) 1 _ rfl).mono ?_
        rintro e w3 ⟨rfl, hb⟩
        exact ⟨_, rfl, hb, rfl⟩
       refine rg_litR k35 35 ([(⟨false, (⟨#[68]⟩ : ByteArray), (-1)⟩ : S35), (⟨true, (⟨#[68]⟩ : ByteArray), 1⟩ : S35)] : List (S35)) rfl rfl (fun a w hr hs => on_guard (g := 22) (t := 46) rfl rfl (hs.get 3 rfl (by kernel_rfl) rfl)) (by simp) ?_ ?_
       ·
        intro a w' hr hs
        have h48 : a.tmps[48]?.getD undef = .agg #[.bool false, .string (⟨#[68]⟩ : ByteArray), .int .i64 (-1)] := hs.get 1 rfl (by kernel_rfl) rfl
        have h49 : a.tmps[49]?.getD undef = .agg #[.bool true, .string (⟨#[68]⟩ : ByteArray), .int .i64 1] := hs.get 0 rfl (by kernel_rfl) rfl
        refine ⟨[.bool false, .string (⟨#[68]⟩ : ByteArray), .int .i64 (-1), .bool true, .string (⟨#[68]⟩ : ByteArray), .int .i64 1], by go_simp <;> rfl, ?_⟩
        exact Reps.c3 (show Kd.M k35 _ _ _ (⟨false, (⟨#[68]⟩ : ByteArray), (-1)⟩ : S35) [.bool false, .string (⟨#[68]⟩ : ByteArray), .int .i64 (-1)] from k35_mkM _ _ _ _) (Reps.c3 (show Kd.M k35 _ _ _ (⟨true, (⟨#[68]⟩ : ByteArray), 1⟩ : S35) [.bool true, .string (⟨#[68]⟩ : ByteArray), .int .i64 1] from k35_mkM _ _ _ _) (Reps.none _ _))
       refine rg_call (OneR k35 35 ([(⟨false, (⟨#[68]⟩ : ByteArray), (-1)⟩ : S35), (⟨true, (⟨#[68]⟩ : ByteArray), 1⟩ : S35)] : List (S35)) (fun u => .agg #[.int .i64 7, .int .i64 1, .int .u64 0, .string (⟨#[69]⟩ : ByteArray), u])) OneR.grows rfl rfl Try.func9 (by kernel_rfl) rfl (fun a w hr hs => on_guard (g := 22) (t := 46) rfl rfl (hs.get 4 rfl (by kernel_rfl) rfl)) ?_ ?_
       ·
        intro a w' hr hs
        have g50 : OneR k35 35 ([(⟨false, (⟨#[68]⟩ : ByteArray), (-1)⟩ : S35), (⟨true, (⟨#[68]⟩ : ByteArray), 1⟩ : S35)] : List (S35)) (fun u => u) (a.tmps[50]?.getD undef) w' := hs.get 0 rfl (by kernel_rfl) rfl
        obtain ⟨A50, c50, h50, hc50, hC50, hR50⟩ := g50.reads
        replace h50 : a.tmps[50]?.getD undef = .slice A50 ([(⟨false, (⟨#[68]⟩ : ByteArray), (-1)⟩ : S35), (⟨true, (⟨#[68]⟩ : ByteArray), 1⟩ : S35)] : List (S35)).length c50 := h50
        rw [show (#[Operand.const (.string (⟨#[69]⟩ : ByteArray)), Operand.tmp 50] : Array Operand).map a.eval = #[.string (⟨#[69]⟩ : ByteArray), .slice A50 ([(⟨false, (⟨#[68]⟩ : ByteArray), (-1)⟩ : S35), (⟨true, (⟨#[68]⟩ : ByteArray), 1⟩ : S35)] : List (S35)).length c50] by simp [Act.eval, h50]]
        refine (chaperonlaw16_awake.obj_is _ _ _ _ _).mono ?_
        rintro e w3 ⟨rfl, hb⟩
        exact ⟨_, rfl, hb, _, rfl, Kd.R_below hR50 hb⟩
       refine rg_call (fun v _ => v = .bool true) (fun _ _ _ _ h => h) rfl rfl Try.func14 (by kernel_rfl) rfl (fun a w hr hs => on_guard (g := 22) (t := 46) rfl rfl (hs.get 5 rfl (by kernel_rfl) rfl)) ?_ ?_
       ·
        intro a w' hr hs
        have h47 : a.tmps[47]?.getD undef = .agg #[.int .i64 t4, .int .i64 t5, .int .u64 t6, .string t7, .slice Au51 t8.length cu51] := hs.get 4 rfl (by kernel_rfl) rfl
        have g51 : OneR k35 35 ([(⟨false, (⟨#[68]⟩ : ByteArray), (-1)⟩ : S35), (⟨true, (⟨#[68]⟩ : ByteArray), 1⟩ : S35)] : List (S35)) (fun u => .agg #[.int .i64 7, .int .i64 1, .int .u64 0, .string (⟨#[69]⟩ : ByteArray), u]) (a.tmps[51]?.getD undef) w' := hs.get 0 rfl (by kernel_rfl) rfl
        obtain ⟨A51, c51, h51, hc51, hC51, hR51⟩ := g51.reads
        replace h51 : a.tmps[51]?.getD undef = .agg #[.int .i64 7, .int .i64 1, .int .u64 0, .string (⟨#[69]⟩ : ByteArray), .slice A51 ([(⟨false, (⟨#[68]⟩ : ByteArray), (-1)⟩ : S35), (⟨true, (⟨#[68]⟩ : ByteArray), 1⟩ : S35)] : List (S35)).length c51] := h51
        rw [show (#[Operand.tmp 47, Operand.tmp 51] : Array Operand).map a.eval = #[.agg #[.int .i64 t4, .int .i64 t5, .int .u64 t6, .string t7, .slice Au51 t8.length cu51], .agg #[.int .i64 7, .int .i64 1, .int .u64 0, .string (⟨#[69]⟩ : ByteArray), .slice A51 ([(⟨false, (⟨#[68]⟩ : ByteArray), (-1)⟩ : S35), (⟨true, (⟨#[68]⟩ : ByteArray), 1⟩ : S35)] : List (S35)).length c51]] by simp [Act.eval, h47, h51]]
        refine (chaperonkit_SameValue.calls k t4 t5 t6 t7 Au51 cu51 t8 7 1 0 (⟨#[69]⟩ : ByteArray) A51 c51 ([(⟨false, (⟨#[68]⟩ : ByteArray), (-1)⟩ : S35), (⟨true, (⟨#[68]⟩ : ByteArray), 1⟩ : S35)] : List (S35)) true _ (Kd.C_below (Kd.C_drew HCu51.out) hr) hcu51 hC51 hc51 F41.out).mono ?_
        rintro e w3 ⟨rfl, hb⟩
        exact ⟨_, rfl, hb, rfl⟩
       refine rg_val (.bool true) Grows.refl rfl (fun _ _ _ _ => wanted_none rfl) ?_ ?_
       ·
        intro a w' hr hs
        have h46 : a.tmps[46]?.getD undef = .bool true := hs.get 6 rfl (by kernel_rfl) rfl
        have h52 : a.tmps[52]?.getD undef = .bool true := hs.get 0 rfl (by kernel_rfl) rfl
        go_simp
       refine rg_val (.bool true) Grows.refl rfl (fun _ _ _ _ => wanted_none rfl) ?_ ?_
       ·
        intro a w' hr hs
        have h53 : a.tmps[53]?.getD undef = .bool true := hs.get 0 rfl (by kernel_rfl) rfl
        go_simp
       refine rg_val (.int .i64 t25) Grows.refl rfl (fun a w hr hs => on_guard (g := 30) (t := 54) rfl rfl (hs.get 0 rfl (by kernel_rfl) rfl)) ?_ ?_
       ·
        intro a w' hr hs
        have h5 : a.tmps[5]?.getD undef = .int .i64 t25 := hs.out 5 (by kernel_rfl)
        go_simp
       refine rg_val (.bool true) Grows.refl rfl (fun a w hr hs => on_guard (g := 30) (t := 54) rfl rfl (hs.get 1 rfl (by kernel_rfl) rfl)) ?_ ?_
       ·
        intro a w' hr hs
        have h55 : a.tmps[55]?.getD undef = .int .i64 t25 := hs.get 0 rfl (by kernel_rfl) rfl
        go_simp
       refine rg_val (.bool true) Grows.refl rfl (fun _ _ _ _ => wanted_none rfl) ?_ ?_
       ·
        intro a w' hr hs
        have h54 : a.tmps[54]?.getD undef = .bool true := hs.get 2 rfl (by kernel_rfl) rfl
        have h56 : a.tmps[56]?.getD undef = .bool true := hs.get 0 rfl (by kernel_rfl) rfl
        go_simp
       refine rg_val (.bool true) Grows.refl rfl (fun _ _ _ _ => wanted_none rfl) ?_ ?_
       ·
        intro a w' hr hs
        have h57 : a.tmps[57]?.getD undef = .bool true := hs.get 0 rfl (by kernel_rfl) rfl
        go_simp
       refine rg_val (.agg #[.int .i64 t20, .int .i64 t21, .int .u64 t22, .string t23, .slice Au52 t24.length cu52]) Grows.refl rfl (fun a w hr hs => on_guard (g := 34) (t := 58) rfl rfl (hs.get 0 rfl (by kernel_rfl) rfl)) ?_ ?_
       ·
        intro a w' hr hs
        have h4 : a.tmps[4]?.getD undef = .pointer (some ⟨b27_, 0, none⟩) := hs.out 4 (by kernel_rfl)
        have x := hr.at (at_drew HXb27.out)
        have x0 := cell_at x 0
        have x1 := cell_at x 1
        have x2 := cell_at x 2
        have x3 := cell_at x 3
        have x4 := cell_at x 4
        simp only [List.getElem?_toArray, List.getElem?_cons_zero, List.getElem?_cons_succ] at x0 x1 x2 x3 x4
        go_simp
       refine rg_val (.agg #[.int .i64 0, .int .i64 0, .int .u64 0, .string (⟨#[]⟩ : ByteArray), .slice none 0 0]) Grows.refl rfl (fun a w hr hs => on_guard (g := 34) (t := 58) rfl rfl (hs.get 1 rfl (by kernel_rfl) rfl)) ?_ ?_
       ·
        intro a w' hr hs
        go_simp
       refine rg_call (fun v _ => v = .bool t42) (fun _ _ _ _ h => h) rfl rfl Try.func14 (by kernel_rfl) rfl (fun a w hr hs => on_guard (g := 34) (t := 58) rfl rfl (hs.get 2 rfl (by kernel_rfl) rfl)) ?_ ?_
       ·
        intro a w' hr hs
        have h59 : a.tmps[59]?.getD undef = .agg #[.int .i64 t20, .int .i64 t21, .int .u64 t22, .string t23, .slice Au52 t24.length cu52] := hs.get 1 rfl (by kernel_rfl) rfl
        have h60 : a.tmps[60]?.getD undef = .agg #[.int .i64 0, .int .i64 0, .int .u64 0, .string (⟨#[]⟩ : ByteArray), .slice none 0 0] := hs.get 0 rfl (by kernel_rfl) rfl
        rw [show (#[Operand.tmp 59, Operand.tmp 60] : Array Operand).map a.eval = #[.agg #[.int .i64 t20, .int .i64 t21, .int .u64 t22, .string t23, .slice Au52 t24.length cu52], .agg #[.int .i64 0, .int .i64 0, .int .u64 0, .string (⟨#[]⟩ : ByteArray), .slice none 0 0]] by simp [Act.eval, h59, h60]]
        refine (chaperonkit_SameValue.calls k t20 t21 t22 t23 Au52 cu52 t24 0 0 0 (⟨#[]⟩ : ByteArray) none 0 ([] : List (S35)) t42 _ (Kd.C_below (Kd.C_drew HCu52.out) hr) hcu52 (Kd.C_nil _ _) (Nat.le_refl _) F43.out).mono ?_
        rintro e w3 ⟨rfl, hb⟩
        exact ⟨_, rfl, hb, rfl⟩
       refine rg_val (.bool t42) Grows.refl rfl (fun _ _ _ _ => wanted_none rfl) ?_ ?_
       ·
        intro a w' hr hs
        have h58 : a.tmps[58]?.getD undef = .bool true := hs.get 3 rfl (by kernel_rfl) rfl
        have h61 : a.tmps[61]?.getD undef = .bool t42 := hs.get 0 rfl (by kernel_rfl) rfl
        go_simp
       refine rg_val (.bool t42) Grows.refl rfl (fun _ _ _ _ => wanted_none rfl) ?_ ?_
       ·
        intro a w' hr hs
        have h62 : a.tmps[62]?.getD undef = .bool t42 := hs.get 0 rfl (by kernel_rfl) rfl
        go_simp
       intro vs w5_ hr hE
       have e39 : vs 39 = .bool t42 := hE _ (mem_at 0 rfl)
       have hg : Grows w4_s w5_ := Below.trans (Below.refl w4_s.heap.size w4_s).drew hr
       clear hE hr
       rw [show List.range 40 = [0, 1, 2, 3, 4, 5, 6, 7, 8, 9, 10, 11, 12, 13, 14, 15, 16, 17, 18, 19, 20, 21, 22, 23, 24, 25, 26, 27, 28, 29, 30, 31, 32, 33, 34, 35, 36, 37, 38, 39] from rfl]
       simp only [putL, slotOf, List.getElem?_toArray, List.getElem?_cons_zero, List.getElem?_cons_succ, Option.bind_some, Act.put, List.setIfInBounds_toArray, List.set_cons_succ, List.set_cons_zero, e39]
       clear e39
       refine tail_end ?_
       simp only [Exit.then]
       replace HCu50 := Aside0.mk (Kd.C_below HCu50.out hg)
       replace HCu51 := Aside0.mk (Kd.C_below HCu51.out hg)
       replace HCu52 := Aside0.mk (Kd.C_below HCu52.out hg)
       replace HXb1 := Aside0.mk (hg.at HXb1.out)
       replace HXb11 := Aside0.mk (hg.at HXb11.out)
       replace HXb27 := Aside0.mk (hg.at HXb27.out)
       replace HB := Aside0.mk (HB.out.trans (Below.mono hg HB.out.size))
       clear hg
       go_wp2_with fail
       go_ret
       exact ⟨rfl, HB.out⟩
      ·
       rw [if_neg q49] at h
       cases h
     ·
      rw [if_neg q48] at h
      cases h
    ·
     rw [if_neg q47] at h
     cases h
   ·
    rw [if_neg q46] at h
    cases h
  ·
   rw [if_neg q45] at h
   cases h
 ·
  rw [if_neg q44] at h
  cases h
end Go.Proofs.Ytinkbljjpafadaa.PAll
end

section
namespace Go.Proofs.Ytinkbljjpafadaa.PAll
open Go.RowKit Go.Proofs.YtinkbljjpafadaaW.PrintWords Go.Proofs.YtinkbljjpafadaaW.PrintLast Go.Proofs.YtinkbljjpafadaaW.PrintMore
attribute [local go_sem] max2_int min2_int max_two min_two max_three min_three max_four min_four   -- for this text's walks alone
set_option linter.unusedVariables false
set_option linter.unusedSimpArgs false
def chaperonlaw16_CoerceKnown.f (k : Nat)  : Option Bool := (chaperonlaw16_some.f).bind fun bF2 => (coerce_Shows.f k bF2 7 1 0 (⟨#[69]⟩ : ByteArray) ([] : List (S35))).bind fun bF5 => (chaperonlaw16_same.f k bF5 ([(⟨(⟨#[120]⟩ : ByteArray), (-1)⟩ : S33), (⟨(⟨#[121]⟩ : ByteArray), (-1)⟩ : S33)] : List (S33))).bind fun bF7 => (if bF7 = true then (coerce_Shows.f k bF2 7 1 0 (⟨#[69]⟩ : ByteArray) ([(⟨false, (⟨#[68]⟩ : ByteArray), 1⟩ : S35)] : List (S35))).bind fun bF9 => (chaperonlaw16_same.f k bF9 ([(⟨(⟨#[120]⟩ : ByteArray), (-1)⟩ : S33)] : List (S33))).bind fun bF11 => (if bF11 = true then (chaperonlaw16_three.f).bind fun bF17 => (coerce_Shows.f k bF2 bF17.1 bF17.2.1 bF17.2.2.1 bF17.2.2.2.1 bF17.2.2.2.2).bind fun bF19 => (chaperonlaw16_three.f).bind fun bF25 => (chaperonlaw16_three.f).bind fun bF31 => (chaperonlaw16_casts.f k bF25.1 bF25.2.1 bF25.2.2.1 bF25.2.2.2.1 bF25.2.2.2.2 (⟨#[105, 110, 116]⟩ : ByteArray) (⟨#[63]⟩ : ByteArray) 1 bF31.1 bF31.2.1 bF31.2.2.1 bF31.2.2.2.1 bF31.2.2.2.2 0).bind fun bF33 => (if bF33 = true then (chaperonlaw16_casts.f k 6 0 0 (⟨#[]⟩ : ByteArray) ([] : List (S35)) (⟨#[63]⟩ : ByteArray) (⟨#[68]⟩ : ByteArray) 3 6 0 0 (⟨#[]⟩ : ByteArray) ([] : List (S35)) 0).bind fun bF35 => (if bF35 = true then (chaperonlaw16_enters.f k 7 1 0 (⟨#[68]⟩ : ByteArray) ([] : List (S35)) (⟨#[69]⟩ : ByteArray) 5 0 0 0 (⟨#[]⟩ : ByteArray) ([] : List (S35)) 5).bind fun bF37 => (if bF37 = true then (chaperonlaw16_three.f).bind fun bF43 => (chaperonlaw16_enters.f k bF43.1 bF43.2.1 bF43.2.2.1 bF43.2.2.2.1 bF43.2.2.2.2 (⟨#[68]⟩ : ByteArray) (-4) 0 0 0 (⟨#[]⟩ : ByteArray) ([] : List (S35)) (-4)).bind fun bF45 => (if bF45 = true then (chaperonlaw16_three.f).bind fun bF51 => (coerce_Leave.f k bF2 bF51.1 bF51.2.1 bF51.2.2.1 bF51.2.2.2.1 bF51.2.2.2.2 (⟨#[68]⟩ : ByteArray) 1 false).bind fun bF57 => (chaperonlaw16_three.f).bind fun bF63 => (chaperonkit_SameValue.f k bF57.1 bF57.2.1 bF57.2.2.1 bF57.2.2.2.1 bF57.2.2.2.2 bF63.1 bF63.2.1 bF63.2.2.1 bF63.2.2.2.1 bF63.2.2.2.2).bind fun bF65 => (chaperonlaw16_three.f).bind fun bF71 => (coerce_Inward.f k bF2 7 1 0 (⟨#[67]⟩ : ByteArray) ([(⟨false, (⟨#[67]⟩ : ByteArray), (-1)⟩ : S35), (⟨true, (⟨#[67]⟩ : ByteArray), 1⟩ : S35)] : List (S35)) (⟨#[109]⟩ : ByteArray) 1 bF71.1 bF71.2.1 bF71.2.2.1 bF71.2.2.2.1 bF71.2.2.2.2 false).bind fun bF78 => (chaperonlaw16_awake.f k).bind fun bF81 => (if bF81 = true then (if ((bF19.length : Int) == 0) = true then (if bF65 = true then (if (bF78.2.2.2.2.2 == 0) = true then (chaperonlaw16_three.f).bind fun bF87 => (chaperonkit_SameValue.f k bF78.1 bF78.2.1 bF78.2.2.1 bF78.2.2.2.1 bF78.2.2.2.2.1 bF87.1 bF87.2.1 bF87.2.2.1 bF87.2.2.2.1 bF87.2.2.2.2).bind fun bF89 => some (bF89) else none) else none) else none) else none) else none) else none) else none) else none) else none) else none)
theorem chaperonlaw16_CoerceKnown.mono : ∀  k, LeO (chaperonlaw16_CoerceKnown.f k ) (chaperonlaw16_CoerceKnown.f (k + 1) ) := by
 intro  k
 unfold chaperonlaw16_CoerceKnown.f
 repeat' first
  | (with_reducible exact chaperonkit_SameValue.mono _ _ _ _ _ _ _ _ _ _ _)
  | (with_reducible exact chaperonlaw16_awake.mono _)
  | (with_reducible exact chaperonlaw16_casts.mono _ _ _ _ _ _ _ _ _ _ _ _ _ _ _)
  | (with_reducible exact chaperonlaw16_enters.mono _ _ _ _ _ _ _ _ _ _ _ _ _ _)
  | (with_reducible exact chaperonlaw16_same.mono _ _ _)
  | (with_reducible exact coerce_Inward.mono _ _ _ _ _ _ _ _ _ _ _ _ _ _ _)
  | (with_reducible exact coerce_Leave.mono _ _ _ _ _ _ _ _ _ _)
  | (with_reducible exact coerce_Shows.mono _ _ _ _ _ _ _)
  | (with_reducible exact LeO.refl _)
  | (with_reducible exact LeO.none _)
  | (with_reducible refine LeO.ite ?_ ?_)
  | (with_reducible refine LeO.bind ?_ (fun _ => ?_))
open Go.Proofs.YtinkbljjpafadaaRF in
theorem chaperonlaw16_CoerceKnown.obj_is (a : ByteArray) (A : Option Addr) (n c : Nat) (w : World) : Calls Try.prog 9 #[.string a, .slice A n c] w fun e w' => e = .returned (.agg #[.int .i64 7, .int .i64 1, .int .u64 0, .string a, .slice A n c]) ∧ Below w.heap.size w w' := by
 have hu27 := Try.underlying27
 go_enter Try.func9, Try.ntmps9
 go_wp2_with fail
 refine bodyPost_ret (results_cell_row rfl _ _ w.heap.size 27 #[.int .i64 7, .int .i64 1, .int .u64 0, .string a, .slice A n c] (0, 0) _ rfl (at_new _ _ rfl) hu27 rfl (by kernel_rfl)) rfl ?_
 exact ⟨rfl, (Below.refl _ _).alloc (Nat.le_refl _) _⟩
open Go.Proofs.YtinkbljjpafadaaRF Go.Proofs.YtinkbljjpafadaaRG in
set_option maxHeartbeats 2000000 in
set_option maxRecDepth 100000 in
theorem chaperonlaw16_CoerceKnown.calls (k : Nat)  (r : Bool) (w : World)  (h : chaperonlaw16_CoerceKnown.f k  = some r) :
  Calls Try.prog 3 #[] w fun e w' => e = .returned (.bool r) ∧ Below w.heap.size w w' := by
 unfold chaperonlaw16_CoerceKnown.f at h
 have hu27 := Try.underlying27
 have hu33 := Try.underlying33
 have hu35 := Try.underlying35
 have HB := Aside0.mk (Below.refl w.heap.size w)
 replace h := Option.bind_eq_some_iff.1 h
 obtain ⟨t1, F2, h⟩ := h
 try dsimp only at h
 replace F2 := Aside0.mk F2
 replace h := Option.bind_eq_some_iff.1 h
 obtain ⟨t4, F5, h⟩ := h
 try dsimp only at h
 replace F5 := Aside0.mk F5
 replace h := Option.bind_eq_some_iff.1 h
 obtain ⟨t6, F7, h⟩ := h
 try dsimp only at h
 replace F7 := Aside0.mk F7
 by_cases q406 : t6 = true
 ·
  rw [if_pos q406] at h
  obtain rfl : t6 = true := by simpa using q406
  replace h := Option.bind_eq_some_iff.1 h
  obtain ⟨t8, F9, h⟩ := h
  try dsimp only at h
  replace F9 := Aside0.mk F9
  replace h := Option.bind_eq_some_iff.1 h
  obtain ⟨t10, F11, h⟩ := h
  try dsimp only at h
  replace F11 := Aside0.mk F11
  by_cases q407 : t10 = true
  ·
   rw [if_pos q407] at h
   obtain rfl : t10 = true := by simpa using q407
   replace h := Option.bind_eq_some_iff.1 h
   obtain ⟨⟨t12, t13, t14, t15, t16⟩, F17, h⟩ := h
   try dsimp only at h
   replace F17 := Aside0.mk F17
   replace h := Option.bind_eq_some_iff.1 h
   obtain ⟨t18, F19, h⟩ := h
   try dsimp only at h
   replace F19 := Aside0.mk F19
   replace h := Option.bind_eq_some_iff.1 h
   obtain ⟨⟨t20, t21, t22, t23, t24⟩, F25, h⟩ := h
   try dsimp only at h
   replace F25 := Aside0.mk F25
   replace h := Option.bind_eq_some_iff.1 h
   obtain ⟨⟨t26, t27, t28, t29, t30⟩, F31, h⟩ := h
   try dsimp only at h
   replace F31 := Aside0.mk F31
   replace h := Option.bind_eq_some_iff.1 h
   obtain ⟨t32, F33, h⟩ := h
   try dsimp only at h
   replace F33 := Aside0.mk F33
   by_cases q408 : t32 = true
   ·
    rw [if_pos q408] at h
    obtain rfl : t32 = true := by simpa using q408
    replace h := Option.bind_eq_some_iff.1 h
    obtain ⟨t34, F35, h⟩ := h
    try dsimp only at h
    replace F35 := Aside0.mk F35
    by_cases q409 : t34 = true
    ·
     rw [if_pos q409] at h
     obtain rfl : t34 = true := by simpa using q409
     replace h := Option.bind_eq_some_iff.1 h
     obtain ⟨t36, F37, h⟩ := h
     try dsimp only at h
     replace F37 := Aside0.mk F37
     by_cases q410 : t36 = true
     ·
      rw [if_pos q410] at h
      obtain rfl : t36 = true := by simpa using q410
      replace h := Option.bind_eq_some_iff.1 h
      obtain ⟨⟨t38, t39, t40, t41, t42⟩, F43, h⟩ := h
      try dsimp only at h
      replace F43 := Aside0.mk F43
      replace h := Option.bind_eq_some_iff.1 h
      obtain ⟨t44, F45, h⟩ := h
      try dsimp only at h
      replace F45 := Aside0.mk F45
      by_cases q411 : t44 = true
      ·
       rw [if_pos q411] at h
       obtain rfl : t44 = true := by simpa using q411
       replace h := Option.bind_eq_some_iff.1 h
       obtain ⟨⟨t46, t47, t48, t49, t50⟩, F51, h⟩ := h
       try dsimp only at h
       replace F51 := Aside0.mk F51
       replace h := Option.bind_eq_some_iff.1 h
       obtain ⟨⟨t52, t53, t54, t55, t56⟩, F57, h⟩ := h
       try dsimp only at h
       replace F57 := Aside0.mk F57
       replace h := Option.bind_eq_some_iff.1 h
       obtain ⟨⟨t58, t59, t60, t61, t62⟩, F63, h⟩ := h
       try dsimp only at h
       replace F63 := Aside0.mk F63
       replace h := Option.bind_eq_some_iff.1 h
       obtain ⟨t64, F65, h⟩ := h
       try dsimp only at h
       replace F65 := Aside0.mk F65
       replace h := Option.bind_eq_some_iff.1 h
       obtain ⟨⟨t66, t67, t68, t69, t70⟩, F71, h⟩ := h
       try dsimp only at h
       replace F71 := Aside0.mk F71
       replace h := Option.bind_eq_some_iff.1 h
       obtain ⟨⟨t72, t73, t74, t75, t76, t77⟩, F78, h⟩ := h
       try dsimp only at h
       replace F78 := Aside0.mk F78
       replace h := Option.bind_eq_some_iff.1 h
       obtain ⟨t80, F81, h⟩ := h
       try dsimp only at h
       replace F81 := Aside0.mk F81
       by_cases q412 : t80 = true
       ·
        rw [if_pos q412] at h
        obtain rfl : t80 = true := by simpa using q412
        by_cases q413 : ((t18.length : Int) == 0) = true
        ·
         rw [if_pos q413] at h
         have q413a : ((t18.length : Int) == 0) = true := by simpa using q413
         have q413b : decide ((t18.length : Int) = 0) = true := by simpa using q413
         clear q413
         by_cases q414 : t64 = true
         ·
          rw [if_pos q414] at h
          obtain rfl : t64 = true := by simpa using q414
          by_cases q415 : (t77 == 0) = true
          ·
           rw [if_pos q415] at h
           have q415a : (t77 == 0) = true := by simpa using q415
           have q415b : decide (t77 = 0) = true := by simpa using q415
           clear q415
           replace h := Option.bind_eq_some_iff.1 h
           obtain ⟨⟨t82, t83, t84, t85, t86⟩, F87, h⟩ := h
           try dsimp only at h
           replace F87 := Aside0.mk F87
           replace h := Option.bind_eq_some_iff.1 h
           obtain ⟨t88, F89, h⟩ := h
           try dsimp only at h
           replace F89 := Aside0.mk F89
           obtain rfl := Option.some.inj h
           go_enter Try.func3, Try.ntmps3
           refine wp_seq ?_
           refine rg_text (N := 84) 1 Grows (by kernel_rfl) rfl Grows.refl Grows.trans ?_
           rw [show List.range 1 = [0] from rfl]
           refine rg_val (.bool false) Grows.refl rfl (fun _ _ _ _ => wanted_none rfl) ?_ ?_
           ·
            intro a w' hr hs
            go_simp
           intro vs w1_ hr hE
           have e0 : vs 0 = .bool false := hE _ (mem_at 0 rfl)
           have hg : Grows w w1_ := hr
           clear hE hr
           rw [show List.range 1 = [0] from rfl]
           simp only [putL, slotOf, List.getElem?_toArray, List.getElem?_cons_zero, List.getElem?_cons_succ, Option.bind_some, Act.put, List.setIfInBounds_toArray, List.set_cons_succ, List.set_cons_zero, e0]
           clear e0
           have hT : Grows w1_ w1_ := Grows.refl _
           replace hg : Grows w w1_ := hg.trans hT
           clear hT
           refine tail_end ?_
           simp only [Exit.then]
           replace HB := Aside0.mk (HB.out.trans (Below.mono hg HB.out.size))
           clear hg
           refine wp_seq ?_
           refine rg_text (N := 84) 2 Grows (by kernel_rfl) rfl Grows.refl Grows.trans ?_
           rw [show List.range 2 = [0, 1] from rfl]
           refine rg_call (OneC k64 t1 (fun u => u)) OneC.grows rfl rfl Try.func6 (by kernel_rfl) rfl (fun _ _ _ _ => wanted_none rfl) ?_ ?_
           ·
            intro a w' hr hs
            rw [show (#[] : Array Operand).map a.eval = #[] by simp]
            refine (chaperonlaw16_some.calls t1 _ F2.out).mono ?_
            rintro e w3 ⟨v, rfl, hN, hb⟩
            obtain ⟨A9, c9, rfl, hc9, hC9⟩ := Kd.N_reads hN
            exact ⟨_, rfl, hb, A9, c9, rfl, hc9, hC9⟩
           refine rg_val (.agg #[.int .i64 6, .int .i64 0, .int .u64 0, .string (⟨#[]⟩ : ByteArray), .slice none 0 0]) Grows.refl rfl (fun _ _ _ _ => wanted_none rfl) ?_ ?_
           ·
            intro a w' hr hs
            go_simp
           intro vs w2_ hr hE
           have g_ : OneC k64 t1 (fun u => u) (vs 0) w2_ := hE _ (mem_at 1 rfl)
           obtain ⟨Au416, cu416, e0, hcu416, hCu416⟩ := g_.reads
           clear g_
           replace e0 : vs 0 = .slice Au416 t1.length cu416 := e0
           have HCu416 := Aside0.mk hCu416
           clear hCu416
           have e1 : vs 1 = .agg #[.int .i64 6, .int .i64 0, .int .u64 0, .string (⟨#[]⟩ : ByteArray), .slice none 0 0] := hE _ (mem_at 0 rfl)
           have hg : Grows w1_ w2_ := hr
           clear hE hr
           rw [show List.range 2 = [0, 1] from rfl]
           simp only [putL, slotOf, List.getElem?_toArray, List.getElem?_cons_zero, List.getElem?_cons_succ, Option.bind_some, Act.put, List.setIfInBounds_toArray, List.set_cons_succ, List.set_cons_zero, e0, e1]
           clear e0 e1
           have hT : Grows w2_ w2_ := Grows.refl _
           obtain ⟨w2_a, hw2_a⟩ : ∃ W, W = w2_.alloc (.cells #[.int .i64 0, .int .i64 0, .int .u64 0, .string (⟨#[]⟩ : ByteArray), .slice none 0 0] 27) := ⟨_, rfl⟩
           obtain ⟨b3_, hb3_⟩ : ∃ n, n = w2_.heap.size := ⟨_, rfl⟩
           refine tail_valD (i := 2) (r := [3, 4]) (w' := w2_a) 2 (.pointer (some ⟨b3_, 0, none⟩)) rfl rfl (wanted_none rfl) (by rw [hw2_a, hb3_]; go_simp) ?_
           simp only [Act.put, List.setIfInBounds_toArray, List.set_cons_succ, List.set_cons_zero]
           have HXb3 : w2_a.heap[b3_]? = some (.cells #[.int .i64 0, .int .i64 0, .int .u64 0, .string (⟨#[]⟩ : ByteArray), .slice none 0 0] 27 (0, 0)) := by rw [hw2_a, hb3_]; exact at_new _ _ rfl
           replace HXb3 := Aside0.mk HXb3
           have hlb3 : w2_.heap.size ≤ b3_ := by rw [hb3_]; exact hT.size
           replace hT : Grows w2_ w2_a := by rw [hw2_a]; exact hT.trans (Grows.alloc _ _)
           clear hw2_a hb3_
           refine tail_valD (i := 3) (r := [4]) (w' := w2_a) 1 (.slice Au416 t1.length cu416) rfl rfl (wanted_none rfl) (by go_simp) ?_
           simp only [Act.put, List.setIfInBounds_toArray, List.set_cons_succ, List.set_cons_zero]
           have z0 := cell_at HXb3.out 0
           have f0 := free_at HXb3.out 0
           have z1 := cell_at HXb3.out 1
           have f1 := free_at HXb3.out 1
           have z2 := cell_at HXb3.out 2
           have f2 := free_at HXb3.out 2
           have z3 := cell_at HXb3.out 3
           have f3 := free_at HXb3.out 3
           have z4 := cell_at HXb3.out 4
           have f4 := free_at HXb3.out 4
           simp only [List.getElem?_toArray, List.getElem?_cons_zero, List.getElem?_cons_succ] at z0 z1 z2 z3 z4
           obtain ⟨w2_as, hw2_as⟩ : ∃ W, W = (((((w2_a.setCell ⟨b3_, 0, none⟩ (.int .i64 6)).setCell ⟨b3_, 1, none⟩ (.int .i64 0)).setCell ⟨b3_, 2, none⟩ (.int .u64 0)).setCell ⟨b3_, 3, none⟩ (.string (⟨#[]⟩ : ByteArray))).setCell ⟨b3_, 4, none⟩ (.slice none 0 0)) := ⟨_, rfl⟩
           refine tail_skipD (i := 4) (r := []) (w' := w2_as) rfl rfl (wanted_none rfl) (by rw [hw2_as]; go_simp) ?_
           clear z0 z1 z2 z3 z4 f0 f1 f2 f3 f4
           have hX_ : w2_as.heap[b3_]? = some (.cells #[.int .i64 6, .int .i64 0, .int .u64 0, .string (⟨#[]⟩ : ByteArray), .slice none 0 0] 27 (0, 0)) := by rw [hw2_as]; exact (blk_put (blk_put (blk_put (blk_put (blk_put HXb3.out 0 (.int .i64 6) rfl) 1 (.int .i64 0) rfl) 2 (.int .u64 0) rfl) 3 (.string (⟨#[]⟩ : ByteArray)) rfl) 4 (.slice none 0 0) rfl)
           replace HXb3 := Aside0.mk hX_
           clear hX_
           replace hT : Grows w2_ w2_as := by rw [hw2_as]; exact (setB (setB (setB (setB (setB hT hlb3 (.int .i64 6)) hlb3 (.int .i64 0)) hlb3 (.int .u64 0)) hlb3 (.string (⟨#[]⟩ : ByteArray))) hlb3 (.slice none 0 0))
           clear hw2_as
           replace HCu416 := Aside0.mk (Kd.C_below HCu416.out hT)
           replace hg : Grows w1_ w2_as := hg.trans hT
           clear hT
           refine tail_end ?_
           simp only [Exit.then]
           replace HB := Aside0.mk (HB.out.trans (Below.mono hg HB.out.size))
           clear hg
           refine wp_seq ?_
           refine rg_text (N := 84) 25 Grows (by kernel_rfl) rfl Grows.refl Grows.trans ?_
           rw [show List.range 25 = [0, 1, 2, 3, 4, 5, 6, 7, 8, 9, 10, 11, 12, 13, 14, 15, 16, 17, 18, 19, 20, 21, 22, 23, 24] from rfl]
           refine rg_val (.slice Au416 t1.length cu416) Grows.refl rfl (fun _ _ _ _ => wanted_none rfl) ?_ ?_
           ·
            intro a w' hr hs
            have h1 : a.tmps[1]?.getD undef = .slice Au416 t1.length cu416 := hs.out 1 (by kernel_rfl)
            go_simp
           refine rg_call (fun v _ => v = .agg #[.int .i64 7, .int .i64 1, .int .u64 0, .string (⟨#[69]⟩ : ByteArray), .slice none 0 0]) (fun _ _ _ _ h => h) rfl rfl Try.func9 (by kernel_rfl) rfl (fun _ _ _ _ => wanted_none rfl) ?_ ?_
           ·
            intro a w' hr hs
            rw [show (#[Operand.const (.string (⟨#[69]⟩ : ByteArray)), Operand.const (.slice none 0 0)] : Array Operand).map a.eval = #[.string (⟨#[69]⟩ : ByteArray), .slice none 0 0] by simp [Act.eval]]
            refine (chaperonlaw16_CoerceKnown.obj_is _ _ _ _ _).mono ?_
            rintro e w3 ⟨rfl, hb⟩
            exact ⟨_, rfl, hb, rfl⟩
           refine rg_call (OneR k33 33 t4 (fun u => u)) OneR.grows rfl rfl Try.func8 (by kernel_rfl) rfl (fun _ _ _ _ => wanted_none rfl) ?_ ?_
           ·
            intro a w' hr hs
            have h9 : a.tmps[9]?.getD undef = .slice Au416 t1.length cu416 := hs.get 1 rfl (by kernel_rfl) rfl
            have h10 : a.tmps[10]?.getD undef = .agg #[.int .i64 7, .int .i64 1, .int .u64 0, .string (⟨#[69]⟩ : ByteArray), .slice none 0 0] := hs.get 0 rfl (by kernel_rfl) rfl
            rw [show (#[Operand.tmp 9, Operand.tmp 10] : Array Operand).map a.eval = #[.slice Au416 t1.length cu416, .agg #[.int .i64 7, .int .i64 1, .int .u64 0, .string (⟨#[69]⟩ : ByteArray), .slice none 0 0]] by simp [Act.eval, h9, h10]]
            refine (coerce_Shows.calls k Au416 cu416 t1 7 1 0 (⟨#[69]⟩ : ByteArray) none 0 ([] : List (S35)) t4 _ (Kd.C_below HCu416.out hr) hcu416 (Kd.C_nil _ _) (Nat.le_refl _) F5.out).mono ?_
            rintro e w3 ⟨v, rfl, hR, hb⟩
            exact ⟨_, rfl, hb, OneR.of hR⟩
           refine rg_val (.agg #[.string (⟨#[120]⟩ : ByteArray), .int .i64 (-1)]) Grows.refl rfl (fun _ _ _ _ => wanted_none rfl) ?_ ?_
           ·
            intro a w' hr hs
            go_simp
           refine rg_val (.agg #[.string (⟨#[121]⟩ : ByteArray), .int .i64 (-1)]) Grows.refl rfl (fun _ _ _ _ => wanted_none rfl) ?_ ?_
           ·
            intro a w' hr hs
            go_simp
           refine rg_litR k33 33 ([(⟨(⟨#[120]⟩ : ByteArray), (-1)⟩ : S33), (⟨(⟨#[121]⟩ : ByteArray), (-1)⟩ : S33)] : List (S33)) rfl rfl (fun _ _ _ _ => wanted_none rfl) (by simp) ?_ ?_
           ·
            intro a w' hr hs
            have h12 : a.tmps[12]?.getD undef = .agg #[.string (⟨#[120]⟩ : ByteArray), .int .i64 (-1)] := hs.get 1 rfl (by kernel_rfl) rfl
            have h13 : a.tmps[13]?.getD undef = .agg #[.string (⟨#[121]⟩ : ByteArray), .int .i64 (-1)] := hs.get 0 rfl (by kernel_rfl) rfl
            refine ⟨[.string (⟨#[120]⟩ : ByteArray), .int .i64 (-1), .string (⟨#[121]⟩ : ByteArray), .int .i64 (-1)], by go_simp <;> rfl, ?_⟩
            exact Reps.c2 (show Kd.M k33 _ _ _ (⟨(⟨#[120]⟩ : ByteArray), (-1)⟩ : S33) [.string (⟨#[120]⟩ : ByteArray), .int .i64 (-1)] from k33_mkM _ _ _ _) (Reps.c2 (show Kd.M k33 _ _ _ (⟨(⟨#[121]⟩ : ByteArray), (-1)⟩ : S33) [.string (⟨#[121]⟩ : ByteArray), .int .i64 (-1)] from k33_mkM _ _ _ _) (Reps.none _ _))
           refine rg_call (fun v _ => v = .bool true) (fun _ _ _ _ h => h) rfl rfl Try.func7 (by kernel_rfl) rfl (fun _ _ _ _ => wanted_none rfl) ?_ ?_
           ·
            intro a w' hr hs
            have g11 : OneR k33 33 t4 (fun u => u) (a.tmps[11]?.getD undef) w' := hs.get 3 rfl (by kernel_rfl) rfl
            obtain ⟨A11, c11, h11, hc11, hC11, hR11⟩ := g11.reads
            replace h11 : a.tmps[11]?.getD undef = .slice A11 t4.length c11 := h11
            have g14 : OneR k33 33 ([(⟨(⟨#[120]⟩ : ByteArray), (-1)⟩ : S33), (⟨(⟨#[121]⟩ : ByteArray), (-1)⟩ : S33)] : List (S33)) (fun u => u) (a.tmps[14]?.getD undef) w' := hs.get 0 rfl (by kernel_rfl) rfl
            obtain ⟨A14, c14, h14, hc14, hC14, hR14⟩ := g14.reads
            replace h14 : a.tmps[14]?.getD undef = .slice A14 ([(⟨(⟨#[120]⟩ : ByteArray), (-1)⟩ : S33), (⟨(⟨#[121]⟩ : ByteArray), (-1)⟩ : S33)] : List (S33)).length c14 := h14
            rw [show (#[Operand.tmp 11, Operand.tmp 14] : Array Operand).map a.eval = #[.slice A11 t4.length c11, .slice A14 ([(⟨(⟨#[120]⟩ : ByteArray), (-1)⟩ : S33), (⟨(⟨#[121]⟩ : ByteArray), (-1)⟩ : S33)] : List (S33)).length c14] by simp [Act.eval, h11, h14]]
            refine (chaperonlaw16_same.calls k A11 c11 t4 A14 c14 ([(⟨(⟨#[120]⟩ : ByteArray), (-1)⟩ : S33), (⟨(⟨#[121]⟩ : ByteArray), (-1)⟩ : S33)] : List (S33)) true _ hC11 hc11 hC14 hc14 F7.out).mono ?_
            rintro e w3 ⟨rfl, hb⟩
            exact ⟨_, rfl, hb.below, rfl⟩
           refine rg_val (.bool true) Grows.refl rfl (fun _ _ _ _ => wanted_none rfl) ?_ ?_
           ·
            intro a w' hr hs
            have h15 : a.tmps[15]?.getD undef = .bool true := hs.get 0 rfl (by kernel_rfl) rfl
            go_simp
           refine rg_val (.slice Au416 t1.length cu416) Grows.refl rfl (fun a w hr hs => on_guard (g := 7) (t := 16) rfl rfl (hs.get 0 rfl (by kernel_rfl) rfl)) ?_ ?_
           ·
            intro a w' hr hs
            have h1 : a.tmps[1]?.getD undef = .slice Au416 t1.length cu416 := hs.out 1 (by kernel_rfl)
            go_simp
           refine rg_call (fun v _ => v = .agg #[.bool false, .string (⟨#[68]⟩ : ByteArray), .int .i64 1]) (fun _ _ _ _ h => h) rfl rfl Try.func10 (by kernel_rfl) rfl (fun a w hr hs => on_guard (g := 7) (t := 16) rfl rfl (hs.get 1 rfl (by kernel_rfl) rfl)) ?_ ?_
           ·
            intro a w' hr hs
            rw [show (#[Operand.const (.string (⟨#[68]⟩ : ByteArray)), Operand.const (.int .i64 1)] : Array Operand).map a.eval = #[.string (⟨#[68]⟩ : ByteArray), .int .i64 1] by simp [Act.eval]]
            refine (chaperonlaw16_in.calls (⟨#[68]⟩ : ByteArray) 1 false (⟨#[68]⟩ : ByteArray) 1 _ rfl).mono ?_
            rintro e w3 ⟨rfl, hb⟩
            exact ⟨_, rfl, hb, rfl⟩
           refine rg_litR k35 35 ([(⟨false, (⟨#[68]⟩ : ByteArray), 1⟩ : S35)] : List (S35)) rfl rfl (fun a w hr hs => on_guard (g := 7) (t := 16) rfl rfl (hs.get 2 rfl (by kernel_rfl) rfl)) (by simp) ?_ ?_
           ·
            intro a w' hr hs
            have h18 : a.tmps[18]?.getD undef = .agg #[.bool false, .string (⟨#[68]⟩ : ByteArray), .int .i64 1] := hs.get 0 rfl (by kernel_rfl) rfl
            refine ⟨[.bool false, .string (⟨#[68]⟩ : ByteArray), .int .i64 1], by go_simp <;> rfl, ?_⟩
            exact Reps.c3 (show Kd.M k35 _ _ _ (⟨false, (⟨#[68]⟩ : ByteArray), 1⟩ : S35) [.bool false, .string (⟨#[68]⟩ : ByteArray), .int .i64 1] from k35_mkM _ _ _ _) (Reps.none _ _)
           refine rg_call (OneR k35 35 ([(⟨false, (⟨#[68]⟩ : ByteArray), 1⟩ : S35)] : List (S35)) (fun u => .agg #[.int .i64 7, .int .i64 1, .int .u64 0, .string (⟨#[69]⟩ : ByteArray), u])) OneR.grows rfl rfl Try.func9 (by kernel_rfl) rfl (fun a w hr hs => on_guard (g := 7) (t := 16) rfl rfl (hs.get 3 rfl (by kernel_rfl) rfl)) ?_ ?_
           ·
            intro a w' hr hs
            have g19 : OneR k35 35 ([(⟨false, (⟨#[68]⟩ : ByteArray), 1⟩ : S35)] : List (S35)) (fun u => u) (a.tmps[19]?.getD undef) w' := hs.get 0 rfl (by kernel_rfl) rfl
            obtain ⟨A19, c19, h19, hc19, hC19, hR19⟩ := g19.reads
            replace h19 : a.tmps[19]?.getD undef = .slice A19 ([(⟨false, (⟨#[68]⟩ : ByteArray), 1⟩ : S35)] : List (S35)).length c19 := h19
            rw [show (#[Operand.const (.string (⟨#[69]⟩ : ByteArray)), Operand.tmp 19] : Array Operand).map a.eval = #[.string (⟨#[69]⟩ : ByteArray), .slice A19 ([(⟨false, (⟨#[68]⟩ : ByteArray), 1⟩ : S35)] : List (S35)).length c19] by simp [Act.eval, h19]]
            refine (chaperonlaw16_CoerceKnown.obj_is _ _ _ _ _).mono ?_
            rintro e w3 ⟨rfl, hb⟩
            exact ⟨_, rfl, hb, _, rfl, Kd.R_below hR19 hb⟩
           refine rg_call (OneR k33 33 t8 (fun u => u)) OneR.grows rfl rfl Try.func8 (by kernel_rfl) rfl (fun a w hr hs => on_guard (g := 7) (t := 16) rfl rfl (hs.get 4 rfl (by kernel_rfl) rfl)) ?_ ?_
           ·
            intro a w' hr hs
            have h17 : a.tmps[17]?.getD undef = .slice Au416 t1.length cu416 := hs.get 3 rfl (by kernel_rfl) rfl
            have g20 : OneR k35 35 ([(⟨false, (⟨#[68]⟩ : ByteArray), 1⟩ : S35)] : List (S35)) (fun u => .agg #[.int .i64 7, .int .i64 1, .int .u64 0, .string (⟨#[69]⟩ : ByteArray), u]) (a.tmps[20]?.getD undef) w' := hs.get 0 rfl (by kernel_rfl) rfl
            obtain ⟨A20, c20, h20, hc20, hC20, hR20⟩ := g20.reads
            replace h20 : a.tmps[20]?.getD undef = .agg #[.int .i64 7, .int .i64 1, .int .u64 0, .string (⟨#[69]⟩ : ByteArray), .slice A20 ([(⟨false, (⟨#[68]⟩ : ByteArray), 1⟩ : S35)] : List (S35)).length c20] := h20
            rw [show (#[Operand.tmp 17, Operand.tmp 20] : Array Operand).map a.eval = #[.slice Au416 t1.length cu416, .agg #[.int .i64 7, .int .i64 1, .int .u64 0, .string (⟨#[69]⟩ : ByteArray), .slice A20 ([(⟨false, (⟨#[68]⟩ : ByteArray), 1⟩ : S35)] : List (S35)).length c20]] by simp [Act.eval, h17, h20]]
            refine (coerce_Shows.calls k Au416 cu416 t1 7 1 0 (⟨#[69]⟩ : ByteArray) A20 c20 ([(⟨false, (⟨#[68]⟩ : ByteArray), 1⟩ : S35)] : List (S35)) t8 _ (Kd.C_below HCu416.out hr) hcu416 hC20 hc20 F9.out).mono ?_
            rintro e w3 ⟨v, rfl, hR, hb⟩
            exact ⟨_, rfl, hb, OneR.of hR⟩
           refine rg_val (.agg #[.string (⟨#[120]⟩ : ByteArray), .int .i64 (-1)]) Grows.refl rfl (fun a w hr hs => on_guard (g := 7) (t := 16) rfl rfl (hs.get 5 rfl (by kernel_rfl) rfl)) ?_ ?_
           ·
            intro a w' hr hs
            go_simp
           refine rg_litR k33 33 ([(⟨(⟨#[120]⟩ : ByteArray), (-1)⟩ : S33)] : List (S33)) rfl rfl (fun a w hr hs => on_guard (g := 7) (t := 16) rfl rfl (hs.get 6 rfl (by kernel_rfl) rfl)) (by simp) ?_ ?_
           ·
            intro a w' hr hs
            have h22 : a.tmps[22]?.getD undef = .agg #[.string (⟨#[120]⟩ : ByteArray), .int .i64 (-1)] := hs.get 0 rfl (by kernel_rfl) rfl
            refine ⟨[.string (⟨#[120]⟩ : ByteArray), .int .i64 (-1)], by go_simp <;> rfl, ?_⟩
            exact Reps.c2 (show Kd.M k33 _ _ _ (⟨(⟨#[120]⟩ : ByteArray), (-1)⟩ : S33) [.string (⟨#[120]⟩ : ByteArray), .int .i64 (-1)] from k33_mkM _ _ _ _) (Reps.none _ _)
           refine rg_call (fun v _ => v = .bool true) (fun _ _ _ _ h => h) rfl rfl Try.func7 (by kernel_rfl) rfl (fun a w hr hs => on_guard (g := 7) (t := 16) rfl rfl (hs.get 7 rfl (by kernel_rfl) rfl)) ?_ ?_
           ·
            intro a w' hr hs
            have g21 : OneR k33 33 t8 (fun u => u) (a.tmps[21]?.getD undef) w' := hs.get 2 rfl (by kernel_rfl) rfl
            obtain ⟨A21, c21, h21, hc21, hC21, hR21⟩ := g21.reads
            replace h21 : a.tmps[21]?.getD undef = .slice A21 t8.length c21 := h21
            have g23 : OneR k33 33 ([(⟨(⟨#[120]⟩ : ByteArray), (-1)⟩ : S33)] : List (S33)) (fun u => u) (a.tmps[23]?.getD undef) w' := hs.get 0 rfl (by kernel_rfl) rfl
            obtain ⟨A23, c23, h23, hc23, hC23, hR23⟩ := g23.reads
            replace h23 : a.tmps[23]?.getD undef = .slice A23 ([(⟨(⟨#[120]⟩ : ByteArray), (-1)⟩ : S33)] : List (S33)).length c23 := h23
            rw [show (#[Operand.tmp 21, Operand.tmp 23] : Array Operand).map a.eval = #[.slice A21 t8.length c21, .slice A23 ([(⟨(⟨#[120]⟩ : ByteArray), (-1)⟩ : S33)] : List (S33)).length c23] by simp [Act.eval, h21, h23]]
            refine (chaperonlaw16_same.calls k A21 c21 t8 A23 c23 ([(⟨(⟨#[120]⟩ : ByteArray), (-1)⟩ : S33)] : List (S33)) true _ hC21 hc21 hC23 hc23 F11.out).mono ?_
            rintro e w3 ⟨rfl, hb⟩
            exact ⟨_, rfl, hb.below, rfl⟩
           refine rg_val (.bool true) Grows.refl rfl (fun _ _ _ _ => wanted_none rfl) ?_ ?_
           ·
            intro a w' hr hs
            have h16 : a.tmps[16]?.getD undef = .bool true := hs.get 8 rfl (by kernel_rfl) rfl
            have h24 : a.tmps[24]?.getD undef = .bool true := hs.get 0 rfl (by kernel_rfl) rfl
            go_simp
           refine rg_val (.bool true) Grows.refl rfl (fun _ _ _ _ => wanted_none rfl) ?_ ?_
           ·
            intro a w' hr hs
            have h25 : a.tmps[25]?.getD undef = .bool true := hs.get 0 rfl (by kernel_rfl) rfl
            go_simp
           refine rg_val (.slice Au416 t1.length cu416) Grows.refl rfl (fun a w hr hs => on_guard (g := 17) (t := 26) rfl rfl (hs.get 0 rfl (by kernel_rfl) rfl)) ?_ ?_
           ·
            intro a w' hr hs
            have h1 : a.tmps[1]?.getD undef = .slice Au416 t1.length cu416 := hs.out 1 (by kernel_rfl)
            go_simp
           refine rg_call (OneR k35 35 t16 (fun u => .agg #[.int .i64 t12, .int .i64 t13, .int .u64 t14, .string t15, u])) OneR.grows rfl rfl Try.func11 (by kernel_rfl) rfl (fun a w hr hs => on_guard (g := 17) (t := 26) rfl rfl (hs.get 1 rfl (by kernel_rfl) rfl)) ?_ ?_
           ·
            intro a w' hr hs
            rw [show (#[] : Array Operand).map a.eval = #[] by simp]
            refine (chaperonlaw16_three.calls t12 t13 t14 t15 t16 _ F17.out).mono ?_
            rintro e w3 ⟨v, rfl, hR, hb⟩
            exact ⟨_, rfl, hb, OneR.of hR⟩
           refine rg_call (OneR k33 33 t18 (fun u => u)) OneR.grows rfl rfl Try.func8 (by kernel_rfl) rfl (fun a w hr hs => on_guard (g := 17) (t := 26) rfl rfl (hs.get 2 rfl (by kernel_rfl) rfl)) ?_ ?_
           ·
            intro a w' hr hs
            have h27 : a.tmps[27]?.getD undef = .slice Au416 t1.length cu416 := hs.get 1 rfl (by kernel_rfl) rfl
            have g28 : OneR k35 35 t16 (fun u => .agg #[.int .i64 t12, .int .i64 t13, .int .u64 t14, .string t15, u]) (a.tmps[28]?.getD undef) w' := hs.get 0 rfl (by kernel_rfl) rfl
            obtain ⟨A28, c28, h28, hc28, hC28, hR28⟩ := g28.reads
            replace h28 : a.tmps[28]?.getD undef = .agg #[.int .i64 t12, .int .i64 t13, .int .u64 t14, .string t15, .slice A28 t16.length c28] := h28
            rw [show (#[Operand.tmp 27, Operand.tmp 28] : Array Operand).map a.eval = #[.slice Au416 t1.length cu416, .agg #[.int .i64 t12, .int .i64 t13, .int .u64 t14, .string t15, .slice A28 t16.length c28]] by simp [Act.eval, h27, h28]]
            refine (coerce_Shows.calls k Au416 cu416 t1 t12 t13 t14 t15 A28 c28 t16 t18 _ (Kd.C_below HCu416.out hr) hcu416 hC28 hc28 F19.out).mono ?_
            rintro e w3 ⟨v, rfl, hR, hb⟩
            exact ⟨_, rfl, hb, OneR.of hR⟩
           refine rg_val (.int .i64 (t18.length : Int)) Grows.refl rfl (fun a w hr hs => on_guard (g := 17) (t := 26) rfl rfl (hs.get 3 rfl (by kernel_rfl) rfl)) ?_ ?_
           ·
            intro a w' hr hs
            have g29 : OneR k33 33 t18 (fun u => u) (a.tmps[29]?.getD undef) w' := hs.get 0 rfl (by kernel_rfl) rfl
            obtain ⟨A29, c29, h29, hc29, hC29, hR29⟩ := g29.reads
            replace h29 : a.tmps[29]?.getD undef = .slice A29 t18.length c29 := h29
            go_simp
           refine rg_val (.bool true) Grows.refl rfl (fun a w hr hs => on_guard (g := 17) (t := 26) rfl rfl (hs.get 4 rfl (by kernel_rfl) rfl)) ?_ ?_
           ·
            intro a w' hr hs
            have h30 : a.tmps[30]?.getD undef = .int .i64 (t18.length : Int) := hs.get 0 rfl (by kernel_rfl) rfl
            go_simp
           refine rg_val (.bool true) Grows.refl rfl (fun _ _ _ _ => wanted_none rfl) ?_ ?_
           ·
            intro a w' hr hs
            have h26 : a.tmps[26]?.getD undef = .bool true := hs.get 5 rfl (by kernel_rfl) rfl
            have h31 : a.tmps[31]?.getD undef = .bool true := hs.get 0 rfl (by kernel_rfl) rfl
            go_simp
           refine rg_val (.bool true) Grows.refl rfl (fun _ _ _ _ => wanted_none rfl) ?_ ?_
           ·
            intro a w' hr hs
            have h32 : a.tmps[32]?.getD undef = .bool true := hs.get 0 rfl (by kernel_rfl) rfl
            go_simp
           intro vs w3_ hr hE
           have e24 : vs 24 = .bool true := hE _ (mem_at 0 rfl)
           have hg : Grows w2_as w3_ := hr
           clear hE hr
           rw [show List.range 25 = [0, 1, 2, 3, 4, 5, 6, 7, 8, 9, 10, 11, 12, 13, 14, 15, 16, 17, 18, 19, 20, 21, 22, 23, 24] from rfl]
           simp only [putL, slotOf, List.getElem?_toArray, List.getElem?_cons_zero, List.getElem?_cons_succ, Option.bind_some, Act.put, List.setIfInBounds_toArray, List.set_cons_succ, List.set_cons_zero, e24]
           clear e24
           have hT : Grows w3_ w3_ := Grows.refl _
           replace hg : Grows w2_as w3_ := hg.trans hT
           clear hT
           refine tail_end ?_
           simp only [Exit.then]
           replace HCu416 := Aside0.mk (Kd.C_below HCu416.out hg)
           replace HXb3 := Aside0.mk (hg.at HXb3.out)
           replace HB := Aside0.mk (HB.out.trans (Below.mono hg HB.out.size))
           clear hg
           refine wp_seq ?_
           refine rg_text (N := 84) 26 Grows (by kernel_rfl) rfl Grows.refl Grows.trans ?_
           rw [show List.range 26 = [0, 1, 2, 3, 4, 5, 6, 7, 8, 9, 10, 11, 12, 13, 14, 15, 16, 17, 18, 19, 20, 21, 22, 23, 24, 25] from rfl]
           refine rg_call (OneR k35 35 t24 (fun u => .agg #[.int .i64 t20, .int .i64 t21, .int .u64 t22, .string t23, u])) OneR.grows rfl rfl Try.func11 (by kernel_rfl) rfl (fun _ _ _ _ => wanted_none rfl) ?_ ?_
           ·
            intro a w' hr hs
            rw [show (#[] : Array Operand).map a.eval = #[] by simp]
            refine (chaperonlaw16_three.calls t20 t21 t22 t23 t24 _ F25.out).mono ?_
            rintro e w3 ⟨v, rfl, hR, hb⟩
            exact ⟨_, rfl, hb, OneR.of hR⟩
           refine rg_call (OneR k35 35 t30 (fun u => .agg #[.int .i64 t26, .int .i64 t27, .int .u64 t28, .string t29, u])) OneR.grows rfl rfl Try.func11 (by kernel_rfl) rfl (fun _ _ _ _ => wanted_none rfl) ?_ ?_
           ·
            intro a w' hr hs
            rw [show (#[] : Array Operand).map a.eval = #[] by simp]
            refine (chaperonlaw16_three.calls t26 t27 t28 t29 t30 _ F31.out).mono ?_
            rintro e w3 ⟨v, rfl, hR, hb⟩
            exact ⟨_, rfl, hb, OneR.of hR⟩
           refine rg_call (fun v _ => v = .bool true) (fun _ _ _ _ h => h) rfl rfl Try.func12 (by kernel_rfl) rfl (fun _ _ _ _ => wanted_none rfl) ?_ ?_
           ·
            intro a w' hr hs
            have g33 : OneR k35 35 t24 (fun u => .agg #[.int .i64 t20, .int .i64 t21, .int .u64 t22, .string t23, u]) (a.tmps[33]?.getD undef) w' := hs.get 1 rfl (by kernel_rfl) rfl
            obtain ⟨A33, c33, h33, hc33, hC33, hR33⟩ := g33.reads
            replace h33 : a.tmps[33]?.getD undef = .agg #[.int .i64 t20, .int .i64 t21, .int .u64 t22, .string t23, .slice A33 t24.length c33] := h33
            have g34 : OneR k35 35 t30 (fun u => .agg #[.int .i64 t26, .int .i64 t27, .int .u64 t28, .string t29, u]) (a.tmps[34]?.getD undef) w' := hs.get 0 rfl (by kernel_rfl) rfl
            obtain ⟨A34, c34, h34, hc34, hC34, hR34⟩ := g34.reads
            replace h34 : a.tmps[34]?.getD undef = .agg #[.int .i64 t26, .int .i64 t27, .int .u64 t28, .string t29, .slice A34 t30.length c34] := h34
            rw [show (#[Operand.tmp 33, Operand.const (.string (⟨#[105, 110, 116]⟩ : ByteArray)), Operand.const (.string (⟨#[63]⟩ : ByteArray)), Operand.const (.int .i64 1), Operand.tmp 34, Operand.const (.int .i64 0)] : Array Operand).map a.eval = #[.agg #[.int .i64 t20, .int .i64 t21, .int .u64 t22, .string t23, .slice A33 t24.length c33], .string (⟨#[105, 110, 116]⟩ : ByteArray), .string (⟨#[63]⟩ : ByteArray), .int .i64 1, .agg #[.int .i64 t26, .int .i64 t27, .int .u64 t28, .string t29, .slice A34 t30.length c34], .int .i64 0] by simp [Act.eval, h33, h34]]
            refine (chaperonlaw16_casts.calls k t20 t21 t22 t23 A33 c33 t24 (⟨#[105, 110, 116]⟩ : ByteArray) (⟨#[63]⟩ : ByteArray) 1 t26 t27 t28 t29 A34 c34 t30 0 true _ hC33 hc33 hC34 hc34 F33.out).mono ?_
            rintro e w3 ⟨rfl, hb⟩
            exact ⟨_, rfl, hb, rfl⟩
           refine rg_val (.bool true) Grows.refl rfl (fun _ _ _ _ => wanted_none rfl) ?_ ?_
           ·
            intro a w' hr hs
            have h35 : a.tmps[35]?.getD undef = .bool true := hs.get 0 rfl (by kernel_rfl) rfl
            go_simp
           refine rg_val (.agg #[.int .i64 6, .int .i64 0, .int .u64 0, .string (⟨#[]⟩ : ByteArray), .slice none 0 0]) Grows.refl rfl (fun a w hr hs => on_guard (g := 3) (t := 36) rfl rfl (hs.get 0 rfl (by kernel_rfl) rfl)) ?_ ?_
           ·
            intro a w' hr hs
            have h2 : a.tmps[2]?.getD undef = .pointer (some ⟨b3_, 0, none⟩) := hs.out 2 (by kernel_rfl)
            have x := hr.at HXb3.out
            have x0 := cell_at x 0
            have x1 := cell_at x 1
            have x2 := cell_at x 2
            have x3 := cell_at x 3
            have x4 := cell_at x 4
            simp only [List.getElem?_toArray, List.getElem?_cons_zero, List.getElem?_cons_succ] at x0 x1 x2 x3 x4
            go_simp
           refine rg_val (.agg #[.int .i64 6, .int .i64 0, .int .u64 0, .string (⟨#[]⟩ : ByteArray), .slice none 0 0]) Grows.refl rfl (fun a w hr hs => on_guard (g := 3) (t := 36) rfl rfl (hs.get 1 rfl (by kernel_rfl) rfl)) ?_ ?_
           ·
            intro a w' hr hs
            have h2 : a.tmps[2]?.getD undef = .pointer (some ⟨b3_, 0, none⟩) := hs.out 2 (by kernel_rfl)
            have x := hr.at HXb3.out
            have x0 := cell_at x 0
            have x1 := cell_at x 1
            have x2 := cell_at x 2
            have x3 := cell_at x 3
            have x4 := cell_at x 4
            simp only [List.getElem?_toArray, List.getElem?_cons_zero, List.getElem?_cons_succ] at x0 x1 x2 x3 x4
            go_simp
           refine rg_call (fun v _ => v = .bool true) (fun _ _ _ _ h => h) rfl rfl Try.func12 (by kernel_rfl) rfl (fun a w hr hs => on_guard (g := 3) (t := 36) rfl rfl (hs.get 2 rfl (by kernel_rfl) rfl)) ?_ ?_
           ·
            intro a w' hr hs
            have h37 : a.tmps[37]?.getD undef = .agg #[.int .i64 6, .int .i64 0, .int .u64 0, .string (⟨#[]⟩ : ByteArray), .slice none 0 0] := hs.get 1 rfl (by kernel_rfl) rfl
            have h38 : a.tmps[38]?.getD undef = .agg #[.int .i64 6, .int .i64 0, .int .u64 0, .string (⟨#[]⟩ : ByteArray), .slice none 0 0] := hs.get 0 rfl (by kernel_rfl) rfl
            rw [show (#[Operand.tmp 37, Operand.const (.string (⟨#[63]⟩ : ByteArray)), Operand.const (.string (⟨#[68]⟩ : ByteArray)), Operand.const (.int .i64 3), Operand.tmp 38, Operand.const (.int .i64 0)] : Array Operand).map a.eval = #[.agg #[.int .i64 6, .int .i64 0, .int .u64 0, .string (⟨#[]⟩ : ByteArray), .slice none 0 0], .string (⟨#[63]⟩ : ByteArray), .string (⟨#[68]⟩ : ByteArray), .int .i64 3, .agg #[.int .i64 6, .int .i64 0, .int .u64 0, .string (⟨#[]⟩ : ByteArray), .slice none 0 0], .int .i64 0] by simp [Act.eval, h37, h38]]
            refine (chaperonlaw16_casts.calls k 6 0 0 (⟨#[]⟩ : ByteArray) none 0 ([] : List (S35)) (⟨#[63]⟩ : ByteArray) (⟨#[68]⟩ : ByteArray) 3 6 0 0 (⟨#[]⟩ : ByteArray) none 0 ([] : List (S35)) 0 true _ (Kd.C_nil _ _) (Nat.le_refl _) (Kd.C_nil _ _) (Nat.le_refl _) F35.out).mono ?_
            rintro e w3 ⟨rfl, hb⟩
            exact ⟨_, rfl, hb, rfl⟩
           refine rg_val (.bool true) Grows.refl rfl (fun _ _ _ _ => wanted_none rfl) ?_ ?_
           ·
            intro a w' hr hs
            have h36 : a.tmps[36]?.getD undef = .bool true := hs.get 3 rfl (by kernel_rfl) rfl
            have h39 : a.tmps[39]?.getD undef = .bool true := hs.get 0 rfl (by kernel_rfl) rfl
            go_simp
           refine rg_val (.bool true) Grows.refl rfl (fun _ _ _ _ => wanted_none rfl) ?_ ?_
           ·
            intro a w' hr hs
            have h40 : a.tmps[40]?.getD undef = .bool true := hs.get 0 rfl (by kernel_rfl) rfl
            go_simp
           refine rg_call (fun v _ => v = .agg #[.int .i64 7, .int .i64 1, .int .u64 0, .string (⟨#[68]⟩ : ByteArray), .slice none 0 0]) (fun _ _ _ _ h => h) rfl rfl Try.func9 (by kernel_rfl) rfl (fun a w hr hs => on_guard (g := 8) (t := 41) rfl rfl (hs.get 0 rfl (by kernel_rfl) rfl)) ?_ ?_
           ·
            intro a w' hr hs
            rw [show (#[Operand.const (.string (⟨#[68]⟩ : ByteArray)), Operand.const (.slice none 0 0)] : Array Operand).map a.eval = #[.string (⟨#[68]⟩ : ByteArray), .slice none 0 0] by simp [Act.eval]]
            refine (chaperonlaw16_CoerceKnown.obj_is _ _ _ _ _).mono ?_
            rintro e w3 ⟨rfl, hb⟩
            exact ⟨_, rfl, hb, rfl⟩
           refine rg_val (.agg #[.int .i64 0, .int .i64 0, .int .u64 0, .string (⟨#[]⟩ : ByteArray), .slice none 0 0]) Grows.refl rfl (fun a w hr hs => on_guard (g := 8) (t := 41) rfl rfl (hs.get 1 rfl (by kernel_rfl) rfl)) ?_ ?_
           ·
            intro a w' hr hs
            go_simp
           refine rg_call (fun v _ => v = .bool true) (fun _ _ _ _ h => h) rfl rfl Try.func13 (by kernel_rfl) rfl (fun a w hr hs => on_guard (g := 8) (t := 41) rfl rfl (hs.get 2 rfl (by kernel_rfl) rfl)) ?_ ?_
           ·
            intro a w' hr hs
            have h42 : a.tmps[42]?.getD undef = .agg #[.int .i64 7, .int .i64 1, .int .u64 0, .string (⟨#[68]⟩ : ByteArray), .slice none 0 0] := hs.get 1 rfl (by kernel_rfl) rfl
            have h43 : a.tmps[43]?.getD undef = .agg #[.int .i64 0, .int .i64 0, .int .u64 0, .string (⟨#[]⟩ : ByteArray), .slice none 0 0] := hs.get 0 rfl (by kernel_rfl) rfl
            rw [show (#[Operand.tmp 42, Operand.const (.string (⟨#[69]⟩ : ByteArray)), Operand.const (.int .i64 5), Operand.tmp 43, Operand.const (.int .i64 5)] : Array Operand).map a.eval = #[.agg #[.int .i64 7, .int .i64 1, .int .u64 0, .string (⟨#[68]⟩ : ByteArray), .slice none 0 0], .string (⟨#[69]⟩ : ByteArray), .int .i64 5, .agg #[.int .i64 0, .int .i64 0, .int .u64 0, .string (⟨#[]⟩ : ByteArray), .slice none 0 0], .int .i64 5] by simp [Act.eval, h42, h43]]
            refine (chaperonlaw16_enters.calls k 7 1 0 (⟨#[68]⟩ : ByteArray) none 0 ([] : List (S35)) (⟨#[69]⟩ : ByteArray) 5 0 0 0 (⟨#[]⟩ : ByteArray) none 0 ([] : List (S35)) 5 true _ (Kd.C_nil _ _) (Nat.le_refl _) (Kd.C_nil _ _) (Nat.le_refl _) F37.out).mono ?_
            rintro e w3 ⟨rfl, hb⟩
            exact ⟨_, rfl, hb, rfl⟩
           refine rg_val (.bool true) Grows.refl rfl (fun _ _ _ _ => wanted_none rfl) ?_ ?_
           ·
            intro a w' hr hs
            have h41 : a.tmps[41]?.getD undef = .bool true := hs.get 3 rfl (by kernel_rfl) rfl
            have h44 : a.tmps[44]?.getD undef = .bool true := hs.get 0 rfl (by kernel_rfl) rfl
            go_simp
           refine rg_val (.bool true) Grows.refl rfl (fun _ _ _ _ => wanted_none rfl) ?_ ?_
           ·
            intro a w' hr hs
            have h45 : a.tmps[45]?.getD undef = .bool true := hs.get 0 rfl (by kernel_rfl) rfl
            go_simp
           refine rg_call (OneR k35 35 t42 (fun u => .agg #[.int .i64 t38, .int .i64 t39, .int .u64 t40, .string t41, u])) OneR.grows rfl rfl Try.func11 (by kernel_rfl) rfl (fun a w hr hs => on_guard (g := 13) (t := 46) rfl rfl (hs.get 0 rfl (by kernel_rfl) rfl)) ?_ ?_
           ·
            intro a w' hr hs
            rw [show (#[] : Array Operand).map a.eval = #[] by simp]
            refine (chaperonlaw16_three.calls t38 t39 t40 t41 t42 _ F43.out).mono ?_
            rintro e w3 ⟨v, rfl, hR, hb⟩
            exact ⟨_, rfl, hb, OneR.of hR⟩
           refine rg_val (.agg #[.int .i64 0, .int .i64 0, .int .u64 0, .string (⟨#[]⟩ : ByteArray), .slice none 0 0]) Grows.refl rfl (fun a w hr hs => on_guard (g := 13) (t := 46) rfl rfl (hs.get 1 rfl (by kernel_rfl) rfl)) ?_ ?_
           ·
            intro a w' hr hs
            go_simp
           refine rg_call (fun v _ => v = .bool true) (fun _ _ _ _ h => h) rfl rfl Try.func13 (by kernel_rfl) rfl (fun a w hr hs => on_guard (g := 13) (t := 46) rfl rfl (hs.get 2 rfl (by kernel_rfl) rfl)) ?_ ?_
           ·
            intro a w' hr hs
            have g47 : OneR k35 35 t42 (fun u => .agg #[.int .i64 t38, .int .i64 t39, .int .u64 t40, .string t41, u]) (a.tmps[47]?.getD undef) w' := hs.get 1 rfl (by kernel_rfl) rfl
            obtain ⟨A47, c47, h47, hc47, hC47, hR47⟩ := g47.reads
            replace h47 : a.tmps[47]?.getD undef = .agg #[.int .i64 t38, .int .i64 t39, .int .u64 t40, .string t41, .slice A47 t42.length c47] := h47
            have h48 : a.tmps[48]?.getD undef = .agg #[.int .i64 0, .int .i64 0, .int .u64 0, .string (⟨#[]⟩ : ByteArray), .slice none 0 0] := hs.get 0 rfl (by kernel_rfl) rfl
            rw [show (#[Operand.tmp 47, Operand.const (.string (⟨#[68]⟩ : ByteArray)), Operand.const (.int .i64 (-4)), Operand.tmp 48, Operand.const (.int .i64 (-4))] : Array Operand).map a.eval = #[.agg #[.int .i64 t38, .int .i64 t39, .int .u64 t40, .string t41, .slice A47 t42.length c47], .string (⟨#[68]⟩ : ByteArray), .int .i64 (-4), .agg #[.int .i64 0, .int .i64 0, .int .u64 0, .string (⟨#[]⟩ : ByteArray), .slice none 0 0], .int .i64 (-4)] by simp [Act.eval, h47, h48]]
            refine (chaperonlaw16_enters.calls k t38 t39 t40 t41 A47 c47 t42 (⟨#[68]⟩ : ByteArray) (-4) 0 0 0 (⟨#[]⟩ : ByteArray) none 0 ([] : List (S35)) (-4) true _ hC47 hc47 (Kd.C_nil _ _) (Nat.le_refl _) F45.out).mono ?_
            rintro e w3 ⟨rfl, hb⟩
            exact ⟨_, rfl, hb, rfl⟩
           refine rg_val (.bool true) Grows.refl rfl (fun _ _ _ _ => wanted_none rfl) ?_ ?_
           ·
            intro a w' hr hs
            have h46 : a.tmps[46]?.getD undef = .bool true := hs.get 3 rfl (by kernel_rfl) rfl
            have h49 : a.tmps[49]?.getD undef = .bool true := hs.get 0 rfl (by kernel_rfl) rfl
            go_simp
           refine rg_val (.bool true) Grows.refl rfl (fun _ _ _ _ => wanted_none rfl) ?_ ?_
           ·
            intro a w' hr hs
            have h50 : a.tmps[50]?.getD undef = .bool true := hs.get 0 rfl (by kernel_rfl) rfl
            go_simp
           refine rg_val (.slice Au416 t1.length cu416) Grows.refl rfl (fun a w hr hs => on_guard (g := 18) (t := 51) rfl rfl (hs.get 0 rfl (by kernel_rfl) rfl)) ?_ ?_
           ·
            intro a w' hr hs
            have h1 : a.tmps[1]?.getD undef = .slice Au416 t1.length cu416 := hs.out 1 (by kernel_rfl)
            go_simp
           refine rg_call (OneR k35 35 t50 (fun u => .agg #[.int .i64 t46, .int .i64 t47, .int .u64 t48, .string t49, u])) OneR.grows rfl rfl Try.func11 (by kernel_rfl) rfl (fun a w hr hs => on_guard (g := 18) (t := 51) rfl rfl (hs.get 1 rfl (by kernel_rfl) rfl)) ?_ ?_
           ·
            intro a w' hr hs
            rw [show (#[] : Array Operand).map a.eval = #[] by simp]
            refine (chaperonlaw16_three.calls t46 t47 t48 t49 t50 _ F51.out).mono ?_
            rintro e w3 ⟨v, rfl, hR, hb⟩
            exact ⟨_, rfl, hb, OneR.of hR⟩
           refine rg_call (OneR k35 35 t56 (fun u => .agg #[.int .i64 t52, .int .i64 t53, .int .u64 t54, .string t55, u])) OneR.grows rfl rfl Try.func15 (by kernel_rfl) rfl (fun a w hr hs => on_guard (g := 18) (t := 51) rfl rfl (hs.get 2 rfl (by kernel_rfl) rfl)) ?_ ?_
           ·
            intro a w' hr hs
            have h52 : a.tmps[52]?.getD undef = .slice Au416 t1.length cu416 := hs.get 1 rfl (by kernel_rfl) rfl
            have g53 : OneR k35 35 t50 (fun u => .agg #[.int .i64 t46, .int .i64 t47, .int .u64 t48, .string t49, u]) (a.tmps[53]?.getD undef) w' := hs.get 0 rfl (by kernel_rfl) rfl
            obtain ⟨A53, c53, h53, hc53, hC53, hR53⟩ := g53.reads
            replace h53 : a.tmps[53]?.getD undef = .agg #[.int .i64 t46, .int .i64 t47, .int .u64 t48, .string t49, .slice A53 t50.length c53] := h53
            rw [show (#[Operand.tmp 52, Operand.tmp 53, Operand.const (.string (⟨#[68]⟩ : ByteArray)), Operand.const (.int .i64 1), Operand.const (.bool false)] : Array Operand).map a.eval = #[.slice Au416 t1.length cu416, .agg #[.int .i64 t46, .int .i64 t47, .int .u64 t48, .string t49, .slice A53 t50.length c53], .string (⟨#[68]⟩ : ByteArray), .int .i64 1, .bool false] by simp [Act.eval, h52, h53]]
            refine (coerce_Leave.calls k Au416 cu416 t1 t46 t47 t48 t49 A53 c53 t50 (⟨#[68]⟩ : ByteArray) 1 false t52 t53 t54 t55 t56 _ (Kd.C_below HCu416.out hr) hcu416 hC53 hc53 F57.out).mono ?_
            rintro e w3 ⟨v, rfl, hR, hb⟩
            exact ⟨_, rfl, hb, OneR.of hR⟩
           refine rg_call (OneR k35 35 t62 (fun u => .agg #[.int .i64 t58, .int .i64 t59, .int .u64 t60, .string t61, u])) OneR.grows rfl rfl Try.func11 (by kernel_rfl) rfl (fun a w hr hs => on_guard (g := 18) (t := 51) rfl rfl (hs.get 3 rfl (by kernel_rfl) rfl)) ?_ ?_
           ·
            intro a w' hr hs
            rw [show (#[] : Array Operand).map a.eval = #[] by simp]
            refine (chaperonlaw16_three.calls t58 t59 t60 t61 t62 _ F63.out).mono ?_
            rintro e w3 ⟨v, rfl, hR, hb⟩
            exact ⟨_, rfl, hb, OneR.of hR⟩
           refine rg_call (fun v _ => v = .bool true) (fun _ _ _ _ h => h) rfl rfl Try.func14 (by kernel_rfl) rfl (fun a w hr hs => on_guard (g := 18) (t := 51) rfl rfl (hs.get 4 rfl (by kernel_rfl) rfl)) ?_ ?_
           ·
            intro a w' hr hs
            have g54 : OneR k35 35 t56 (fun u => .agg #[.int .i64 t52, .int .i64 t53, .int .u64 t54, .string t55, u]) (a.tmps[54]?.getD undef) w' := hs.get 1 rfl (by kernel_rfl) rfl
            obtain ⟨A54, c54, h54, hc54, hC54, hR54⟩ := g54.reads
            replace h54 : a.tmps[54]?.getD undef = .agg #[.int .i64 t52, .int .i64 t53, .int .u64 t54, .string t55, .slice A54 t56.length c54] := h54
            have g55 : OneR k35 35 t62 (fun u => .agg #[.int .i64 t58, .int .i64 t59, .int .u64 t60, .string t61, u]) (a.tmps[55]?.getD undef) w' := hs.get 0 rfl (by kernel_rfl) rfl
            obtain ⟨A55, c55, h55, hc55, hC55, hR55⟩ := g55.reads
            replace h55 : a.tmps[55]?.getD undef = .agg #[.int .i64 t58, .int .i64 t59, .int .u64 t60, .string t61, .slice A55 t62.length c55] := h55
            rw [show (#[Operand.tmp 54, Operand.tmp 55] : Array Operand).map a.eval = #[.agg #[.int .i64 t52, .int .i64 t53, .int .u64 t54, .string t55, .slice A54 t56.length c54], .agg #[.int .i64 t58, .int .i64 t59, .int .u64 t60, .string t61, .slice A55 t62.length c55]] by simp [Act.eval, h54, h55]]
            refine (chaperonkit_SameValue.calls k t52 t53 t54 t55 A54 c54 t56 t58 t59 t60 t61 A55 c55 t62 true _ hC54 hc54 hC55 hc55 F65.out).mono ?_
            rintro e w3 ⟨rfl, hb⟩
            exact ⟨_, rfl, hb, rfl⟩
           refine rg_val (.bool true) Grows.refl rfl (fun _ _ _ _ => wanted_none rfl) ?_ ?_
           ·
            intro a w' hr hs
            have h51 : a.tmps[51]?.getD undef = .bool true := hs.get 5 rfl (by kernel_rfl) rfl
            have h56 : a.tmps[56]?.getD undef = .bool true := hs.get 0 rfl (by kernel_rfl) rfl
            go_simp
           refine rg_val (.bool true) Grows.refl rfl (fun _ _ _ _ => wanted_none rfl) ?_ ?_
           ·
            intro a w' hr hs
            have h57 : a.tmps[57]?.getD undef = .bool true := hs.get 0 rfl (by kernel_rfl) rfl
            go_simp
           intro vs w4_ hr hE
           have e25 : vs 25 = .bool true := hE _ (mem_at 0 rfl)
           have hg : Grows w3_ w4_ := hr
           clear hE hr
           rw [show List.range 26 = [0, 1, 2, 3, 4, 5, 6, 7, 8, 9, 10, 11, 12, 13, 14, 15, 16, 17, 18, 19, 20, 21, 22, 23, 24, 25] from rfl]
           simp only [putL, slotOf, List.getElem?_toArray, List.getElem?_cons_zero, List.getElem?_cons_succ, Option.bind_some, Act.put, List.setIfInBounds_toArray, List.set_cons_succ, List.set_cons_zero, e25]
           clear e25
           have hT : Grows w4_ w4_ := Grows.refl _
           replace hg : Grows w3_ w4_ := hg.trans hT
           clear hT
           refine tail_end ?_
           simp only [Exit.then]
           replace HCu416 := Aside0.mk (Kd.C_below HCu416.out hg)
           replace HXb3 := Aside0.mk (hg.at HXb3.out)
           replace HB := Aside0.mk (HB.out.trans (Below.mono hg HB.out.size))
           clear hg
           refine wp_seq ?_
           refine rg_text (N := 84) 10 Grows (by kernel_rfl) rfl Grows.refl Grows.trans ?_
           rw [show List.range 10 = [0, 1, 2, 3, 4, 5, 6, 7, 8, 9] from rfl]
           refine rg_val (.slice Au416 t1.length cu416) Grows.refl rfl (fun _ _ _ _ => wanted_none rfl) ?_ ?_
           ·
            intro a w' hr hs
            have h1 : a.tmps[1]?.getD undef = .slice Au416 t1.length cu416 := hs.out 1 (by kernel_rfl)
            go_simp
           refine rg_call (fun v _ => v = .agg #[.bool false, .string (⟨#[67]⟩ : ByteArray), .int .i64 (-1)]) (fun _ _ _ _ h => h) rfl rfl Try.func10 (by kernel_rfl) rfl (fun _ _ _ _ => wanted_none rfl) ?_ ?_
           ·
            intro a w' hr hs
            rw [show (#[Operand.const (.string (⟨#[67]⟩ : ByteArray)), Operand.const (.int .i64 (-1))] : Array Operand).map a.eval = #[.string (⟨#[67]⟩ : ByteArray), .int .i64 (-1)] by simp [Act.eval]]
            refine (chaperonlaw16_in.calls (⟨#[67]⟩ : ByteArray) (-1) false (⟨#[67]⟩ : ByteArray) (-1) _ rfl).mono ?_
            rintro e w3 ⟨rfl, hb⟩
            exact ⟨_, rfl, hb, rfl⟩
           refine rg_call (fun v _ => v = .agg #[.bool true, .string (⟨#[67]⟩ : ByteArray), .int .i64 1]) (fun _ _ _ _ h => h) rfl rfl Try.func17 (by kernel_rfl) rfl (fun _ _ _ _ => wanted_none rfl) ?_ ?_
           ·
            intro a w' hr hs
            rw [show (#[Operand.const (.string (⟨#[67]⟩ : ByteArray)), Operand.const (.int .i64 1)] : Array Operand).map a.eval = #[.string (⟨#[67]⟩ : ByteArray), .int .i64 1] by simp [Act.eval]]
            refine (chaperonlaw16_out.calls (⟨#[67]⟩ : ByteArray) 1 true (⟨#[67]⟩ : ByteArray) 1 _ rfl).mono ?_
            rintro e w3 ⟨rfl, hb⟩
            exact ⟨_, rfl, hb, rfl⟩
           refine rg_litR k35 35 ([(⟨false, (⟨#[67]⟩ : ByteArray), (-1)⟩ : S35), (⟨true, (⟨#[67]⟩ : ByteArray), 1⟩ : S35)] : List (S35)) rfl rfl (fun _ _ _ _ => wanted_none rfl) (by simp) ?_ ?_
           ·
            intro a w' hr hs
            have h60 : a.tmps[60]?.getD undef = .agg #[.bool false, .string (⟨#[67]⟩ : ByteArray), .int .i64 (-1)] := hs.get 1 rfl (by kernel_rfl) rfl
            have h61 : a.tmps[61]?.getD undef = .agg #[.bool true, .string (⟨#[67]⟩ : ByteArray), .int .i64 1] := hs.get 0 rfl (by kernel_rfl) rfl
            refine ⟨[.bool false, .string (⟨#[67]⟩ : ByteArray), .int .i64 (-1), .bool true, .string (⟨#[67]⟩ : ByteArray), .int .i64 1], by go_simp <;> rfl, ?_⟩
            exact Reps.c3 (show Kd.M k35 _ _ _ (⟨false, (⟨#[67]⟩ : ByteArray), (-1)⟩ : S35) [.bool false, .string (⟨#[67]⟩ : ByteArray), .int .i64 (-1)] from k35_mkM _ _ _ _) (Reps.c3 (show Kd.M k35 _ _ _ (⟨true, (⟨#[67]⟩ : ByteArray), 1⟩ : S35) [.bool true, .string (⟨#[67]⟩ : ByteArray), .int .i64 1] from k35_mkM _ _ _ _) (Reps.none _ _))
           refine rg_call (OneR k35 35 ([(⟨false, (⟨#[67]⟩ : ByteArray), (-1)⟩ : S35), (⟨true, (⟨#[67]⟩ : ByteArray), 1⟩ : S35)] : List (S35)) (fun u => .agg #[.int .i64 7, .int .i64 1, .int .u64 0, .string (⟨#[67]⟩ : ByteArray), u])) OneR.grows rfl rfl Try.func9 (by kernel_rfl) rfl (fun _ _ _ _ => wanted_none rfl) ?_ ?_
           ·
            intro a w' hr hs
            have g62 : OneR k35 35 ([(⟨false, (⟨#[67]⟩ : ByteArray), (-1)⟩ : S35), (⟨true, (⟨#[67]⟩ : ByteArray), 1⟩ : S35)] : List (S35)) (fun u => u) (a.tmps[62]?.getD undef) w' := hs.get 0 rfl (by kernel_rfl) rfl
            obtain ⟨A62, c62, h62, hc62, hC62, hR62⟩ := g62.reads
            replace h62 : a.tmps[62]?.getD undef = .slice A62 ([(⟨false, (⟨#[67]⟩ : ByteArray), (-1)⟩ : S35), (⟨true, (⟨#[67]⟩ : ByteArray), 1⟩ : S35)] : List (S35)).length c62 := h62
            rw [show (#[Operand.const (.string (⟨#[67]⟩ : ByteArray)), Operand.tmp 62] : Array Operand).map a.eval = #[.string (⟨#[67]⟩ : ByteArray), .slice A62 ([(⟨false, (⟨#[67]⟩ : ByteArray), (-1)⟩ : S35), (⟨true, (⟨#[67]⟩ : ByteArray), 1⟩ : S35)] : List (S35)).length c62] by simp [Act.eval, h62]]
            refine (chaperonlaw16_CoerceKnown.obj_is _ _ _ _ _).mono ?_
            rintro e w3 ⟨rfl, hb⟩
            exact ⟨_, rfl, hb, _, rfl, Kd.R_below hR62 hb⟩
           refine rg_call (OneR k35 35 t70 (fun u => .agg #[.int .i64 t66, .int .i64 t67, .int .u64 t68, .string t69, u])) OneR.grows rfl rfl Try.func11 (by kernel_rfl) rfl (fun _ _ _ _ => wanted_none rfl) ?_ ?_
           ·
            intro a w' hr hs
            rw [show (#[] : Array Operand).map a.eval = #[] by simp]
            refine (chaperonlaw16_three.calls t66 t67 t68 t69 t70 _ F71.out).mono ?_
            rintro e w3 ⟨v, rfl, hR, hb⟩
            exact ⟨_, rfl, hb, OneR.of hR⟩
           refine rg_call (OneR k35 35 t76 (fun u => .tuple #[.agg #[.int .i64 t72, .int .i64 t73, .int .u64 t74, .string t75, u], .int .i64 t77])) OneR.grows rfl rfl Try.func16 (by kernel_rfl) rfl (fun _ _ _ _ => wanted_none rfl) ?_ ?_
           ·
            intro a w' hr hs
            have h59 : a.tmps[59]?.getD undef = .slice Au416 t1.length cu416 := hs.get 5 rfl (by kernel_rfl) rfl
            have g63 : OneR k35 35 ([(⟨false, (⟨#[67]⟩ : ByteArray), (-1)⟩ : S35), (⟨true, (⟨#[67]⟩ : ByteArray), 1⟩ : S35)] : List (S35)) (fun u => .agg #[.int .i64 7, .int .i64 1, .int .u64 0, .string (⟨#[67]⟩ : ByteArray), u]) (a.tmps[63]?.getD undef) w' := hs.get 1 rfl (by kernel_rfl) rfl
            obtain ⟨A63, c63, h63, hc63, hC63, hR63⟩ := g63.reads
            replace h63 : a.tmps[63]?.getD undef = .agg #[.int .i64 7, .int .i64 1, .int .u64 0, .string (⟨#[67]⟩ : ByteArray), .slice A63 ([(⟨false, (⟨#[67]⟩ : ByteArray), (-1)⟩ : S35), (⟨true, (⟨#[67]⟩ : ByteArray), 1⟩ : S35)] : List (S35)).length c63] := h63
            have g64 : OneR k35 35 t70 (fun u => .agg #[.int .i64 t66, .int .i64 t67, .int .u64 t68, .string t69, u]) (a.tmps[64]?.getD undef) w' := hs.get 0 rfl (by kernel_rfl) rfl
            obtain ⟨A64, c64, h64, hc64, hC64, hR64⟩ := g64.reads
            replace h64 : a.tmps[64]?.getD undef = .agg #[.int .i64 t66, .int .i64 t67, .int .u64 t68, .string t69, .slice A64 t70.length c64] := h64
            rw [show (#[Operand.tmp 59, Operand.tmp 63, Operand.const (.string (⟨#[109]⟩ : ByteArray)), Operand.const (.int .i64 1), Operand.tmp 64, Operand.const (.bool false)] : Array Operand).map a.eval = #[.slice Au416 t1.length cu416, .agg #[.int .i64 7, .int .i64 1, .int .u64 0, .string (⟨#[67]⟩ : ByteArray), .slice A63 ([(⟨false, (⟨#[67]⟩ : ByteArray), (-1)⟩ : S35), (⟨true, (⟨#[67]⟩ : ByteArray), 1⟩ : S35)] : List (S35)).length c63], .string (⟨#[109]⟩ : ByteArray), .int .i64 1, .agg #[.int .i64 t66, .int .i64 t67, .int .u64 t68, .string t69, .slice A64 t70.length c64], .bool false] by simp [Act.eval, h59, h63, h64]]
            refine (coerce_Inward.calls k Au416 cu416 t1 7 1 0 (⟨#[67]⟩ : ByteArray) A63 c63 ([(⟨false, (⟨#[67]⟩ : ByteArray), (-1)⟩ : S35), (⟨true, (⟨#[67]⟩ : ByteArray), 1⟩ : S35)] : List (S35)) (⟨#[109]⟩ : ByteArray) 1 t66 t67 t68 t69 A64 c64 t70 false t72 t73 t74 t75 t76 t77 _ (Kd.C_below HCu416.out hr) hcu416 hC63 hc63 hC64 hc64 F78.out).mono ?_
            rintro e w3 ⟨v, rfl, hR, hb⟩
            exact ⟨_, rfl, hb, OneR.of hR⟩
           refine rg_keep (OneR k35 35 t76 (fun u => .tuple #[.agg #[.int .i64 t72, .int .i64 t73, .int .u64 t74, .string t75, u], .int .i64 t77])) OneR.grows Grows.refl rfl (fun _ _ _ _ => wanted_none rfl) ?_ ?_
           ·
            intro a w' hr hs
            have g65 : OneR k35 35 t76 (fun u => .tuple #[.agg #[.int .i64 t72, .int .i64 t73, .int .u64 t74, .string t75, u], .int .i64 t77]) (a.tmps[65]?.getD undef) w' := hs.get 0 rfl (by kernel_rfl) rfl
            obtain ⟨A65, c65, h65, hc65, hC65, hR65⟩ := g65.reads
            replace h65 : a.tmps[65]?.getD undef = .tuple #[.agg #[.int .i64 t72, .int .i64 t73, .int .u64 t74, .string t75, .slice A65 t76.length c65], .int .i64 t77] := h65
            exact ⟨.tuple #[.agg #[.int .i64 t72, .int .i64 t73, .int .u64 t74, .string t75, .slice A65 t76.length c65], .int .i64 t77], by go_simp, _, rfl, hR65⟩
           refine rg_keep (OneR k35 35 t76 (fun u => .agg #[.int .i64 t72, .int .i64 t73, .int .u64 t74, .string t75, u])) OneR.grows Grows.refl rfl (fun _ _ _ _ => wanted_none rfl) ?_ ?_
           ·
            intro a w' hr hs
            have g58 : OneR k35 35 t76 (fun u => .tuple #[.agg #[.int .i64 t72, .int .i64 t73, .int .u64 t74, .string t75, u], .int .i64 t77]) (a.tmps[58]?.getD undef) w' := hs.get 0 rfl (by kernel_rfl) rfl
            obtain ⟨A58, c58, h58, hc58, hC58, hR58⟩ := g58.reads
            replace h58 : a.tmps[58]?.getD undef = .tuple #[.agg #[.int .i64 t72, .int .i64 t73, .int .u64 t74, .string t75, .slice A58 t76.length c58], .int .i64 t77] := h58
            exact ⟨.agg #[.int .i64 t72, .int .i64 t73, .int .u64 t74, .string t75, .slice A58 t76.length c58], by go_simp, _, rfl, hR58⟩
           refine rg_val (.int .i64 t77) Grows.refl rfl (fun _ _ _ _ => wanted_none rfl) ?_ ?_
           ·
            intro a w' hr hs
            have g58 : OneR k35 35 t76 (fun u => .tuple #[.agg #[.int .i64 t72, .int .i64 t73, .int .u64 t74, .string t75, u], .int .i64 t77]) (a.tmps[58]?.getD undef) w' := hs.get 1 rfl (by kernel_rfl) rfl
            obtain ⟨A58, c58, h58, hc58, hC58, hR58⟩ := g58.reads
            replace h58 : a.tmps[58]?.getD undef = .tuple #[.agg #[.int .i64 t72, .int .i64 t73, .int .u64 t74, .string t75, .slice A58 t76.length c58], .int .i64 t77] := h58
            go_simp
           intro vs w5_ hr hE
           have g_ : OneR k35 35 t76 (fun u => .agg #[.int .i64 t72, .int .i64 t73, .int .u64 t74, .string t75, u]) (vs 8) w5_ := hE _ (mem_at 1 rfl)
           obtain ⟨Au417, cu417, e8, hcu417, hCu417, hRu417⟩ := g_.reads
           clear g_
           replace e8 : vs 8 = .agg #[.int .i64 t72, .int .i64 t73, .int .u64 t74, .string t75, .slice Au417 t76.length cu417] := e8
           have HCu417 := Aside0.mk hCu417
           clear hCu417
           have HRu417 := Aside0.mk hRu417
           clear hRu417
           have e9 : vs 9 = .int .i64 t77 := hE _ (mem_at 0 rfl)
           have hg : Grows w4_ w5_ := hr
           clear hE hr
           rw [show List.range 10 = [0, 1, 2, 3, 4, 5, 6, 7, 8, 9] from rfl]
           simp only [putL, slotOf, List.getElem?_toArray, List.getElem?_cons_zero, List.getElem?_cons_succ, Option.bind_some, Act.put, List.setIfInBounds_toArray, List.set_cons_succ, List.set_cons_zero, e8, e9]
           clear e8 e9
           have hT : Grows w5_ w5_ := Grows.refl _
           obtain ⟨w5_a, hw5_a⟩ : ∃ W, W = w5_.alloc (.cells #[.int .i64 0, .int .i64 0, .int .u64 0, .string (⟨#[]⟩ : ByteArray), .slice none 0 0] 27) := ⟨_, rfl⟩
           obtain ⟨b79_, hb79_⟩ : ∃ n, n = w5_.heap.size := ⟨_, rfl⟩
           refine tail_valD (i := 10) (r := [11, 12]) (w' := w5_a) 5 (.pointer (some ⟨b79_, 0, none⟩)) rfl rfl (wanted_none rfl) (by rw [hw5_a, hb79_]; go_simp) ?_
           simp only [Act.put, List.setIfInBounds_toArray, List.set_cons_succ, List.set_cons_zero]
           have HXb79 : w5_a.heap[b79_]? = some (.cells #[.int .i64 0, .int .i64 0, .int .u64 0, .string (⟨#[]⟩ : ByteArray), .slice none 0 0] 27 (0, 0)) := by rw [hw5_a, hb79_]; exact at_new _ _ rfl
           replace HXb79 := Aside0.mk HXb79
           have hlb79 : w5_.heap.size ≤ b79_ := by rw [hb79_]; exact hT.size
           replace hT : Grows w5_ w5_a := by rw [hw5_a]; exact hT.trans (Grows.alloc _ _)
           clear hw5_a hb79_
           have z0 := cell_at HXb79.out 0
           have f0 := free_at HXb79.out 0
           have z1 := cell_at HXb79.out 1
           have f1 := free_at HXb79.out 1
           have z2 := cell_at HXb79.out 2
           have f2 := free_at HXb79.out 2
           have z3 := cell_at HXb79.out 3
           have f3 := free_at HXb79.out 3
           have z4 := cell_at HXb79.out 4
           have f4 := free_at HXb79.out 4
           simp only [List.getElem?_toArray, List.getElem?_cons_zero, List.getElem?_cons_succ] at z0 z1 z2 z3 z4
           obtain ⟨w5_as, hw5_as⟩ : ∃ W, W = (((((w5_a.setCell ⟨b79_, 0, none⟩ (.int .i64 t72)).setCell ⟨b79_, 1, none⟩ (.int .i64 t73)).setCell ⟨b79_, 2, none⟩ (.int .u64 t74)).setCell ⟨b79_, 3, none⟩ (.string t75)).setCell ⟨b79_, 4, none⟩ (.slice Au417 t76.length cu417)) := ⟨_, rfl⟩
           refine tail_skipD (i := 11) (r := [12]) (w' := w5_as) rfl rfl (wanted_none rfl) (by rw [hw5_as]; go_simp) ?_
           clear z0 z1 z2 z3 z4 f0 f1 f2 f3 f4
           have hX_ : w5_as.heap[b79_]? = some (.cells #[.int .i64 t72, .int .i64 t73, .int .u64 t74, .string t75, .slice Au417 t76.length cu417] 27 (0, 0)) := by rw [hw5_as]; exact (blk_put (blk_put (blk_put (blk_put (blk_put HXb79.out 0 (.int .i64 t72) rfl) 1 (.int .i64 t73) rfl) 2 (.int .u64 t74) rfl) 3 (.string t75) rfl) 4 (.slice Au417 t76.length cu417) rfl)
           replace HXb79 := Aside0.mk hX_
           clear hX_
           replace hT : Grows w5_ w5_as := by rw [hw5_as]; exact (setB (setB (setB (setB (setB hT hlb79 (.int .i64 t72)) hlb79 (.int .i64 t73)) hlb79 (.int .u64 t74)) hlb79 (.string t75)) hlb79 (.slice Au417 t76.length cu417))
           clear hw5_as
           refine tail_valD (i := 12) (r := []) (w' := w5_as) 6 (.int .i64 t77) rfl rfl (wanted_none rfl) (by go_simp) ?_
           simp only [Act.put, List.setIfInBounds_toArray, List.set_cons_succ, List.set_cons_zero]
           replace HCu417 := Aside0.mk (Kd.C_below HCu417.out hT)
           replace hg : Grows w4_ w5_as := hg.trans hT
           clear hT
           refine tail_end ?_
           simp only [Exit.then]
           replace HCu416 := Aside0.mk (Kd.C_below HCu416.out hg)
           replace HXb3 := Aside0.mk (hg.at HXb3.out)
           replace HB := Aside0.mk (HB.out.trans (Below.mono hg HB.out.size))
           clear hg
           refine wp_seq ?_
           refine rg_region (N := 84) 17 Grows (by kernel_rfl) (by kernel_rfl) rfl Grows.refl Grows.trans ?_
           rw [show List.range 17 = [0, 1, 2, 3, 4, 5, 6, 7, 8, 9, 10, 11, 12, 13, 14, 15, 16] from rfl]
           refine rg_call (fun v _ => v = .bool true) (fun _ _ _ _ h => h) rfl rfl Try.func18 (by kernel_rfl) rfl (fun _ _ _ _ => wanted_none rfl) ?_ ?_
           ·
            intro a w' hr hs
            rw [show (#[] : Array Operand).map a.eval = #[] by simp]
            refine (chaperonlaw16_awake.calls k true _ F81.out).mono ?_
            rintro e w3 ⟨rfl, hb⟩
            exact ⟨_, rfl, hb, rfl⟩
           refine rg_val (.bool true) Grows.refl rfl (fun _ _ _ _ => wanted_none rfl) ?_ ?_
           ·
            intro a w' hr hs
            have h68 : a.tmps[68]?.getD undef = .bool true := hs.get 0 rfl (by kernel_rfl) rfl
            go_simp
           refine rg_val (.bool true) Grows.refl rfl (fun a w hr hs => on_guard (g := 1) (t := 69) rfl rfl (hs.get 0 rfl (by kernel_rfl) rfl)) ?_ ?_
           ·
            intro a w' hr hs
            have h3 : a.tmps[3]?.getD undef = .bool true := hs.out 3 (by kernel_rfl)
            go_simp
           refine rg_val (.bool true) Grows.refl rfl (fun _ _ _ _ => wanted_none rfl) ?_ ?_
           ·
            intro a w' hr hs
            have h69 : a.tmps[69]?.getD undef = .bool true := hs.get 1 rfl (by kernel_rfl) rfl
            have h70 : a.tmps[70]?.getD undef = .bool true := hs.get 0 rfl (by kernel_rfl) rfl
            go_simp
           refine rg_val (.bool true) Grows.refl rfl (fun _ _ _ _ => wanted_none rfl) ?_ ?_
           ·
            intro a w' hr hs
            have h71 : a.tmps[71]?.getD undef = .bool true := hs.get 0 rfl (by kernel_rfl) rfl
            go_simp
           refine rg_val (.bool true) Grows.refl rfl (fun a w hr hs => on_guard (g := 4) (t := 72) rfl rfl (hs.get 0 rfl (by kernel_rfl) rfl)) ?_ ?_
           ·
            intro a w' hr hs
            have h4 : a.tmps[4]?.getD undef = .bool true := hs.out 4 (by kernel_rfl)
            go_simp
           refine rg_val (.bool true) Grows.refl rfl (fun _ _ _ _ => wanted_none rfl) ?_ ?_
           ·
            intro a w' hr hs
            have h72 : a.tmps[72]?.getD undef = .bool true := hs.get 1 rfl (by kernel_rfl) rfl
            have h73 : a.tmps[73]?.getD undef = .bool true := hs.get 0 rfl (by kernel_rfl) rfl
            go_simp
           refine rg_val (.bool true) Grows.refl rfl (fun _ _ _ _ => wanted_none rfl) ?_ ?_
           ·
            intro a w' hr hs
            have h74 : a.tmps[74]?.getD undef = .bool true := hs.get 0 rfl (by kernel_rfl) rfl
            go_simp
           refine rg_val (.int .i64 t77) Grows.refl rfl (fun a w hr hs => on_guard (g := 7) (t := 75) rfl rfl (hs.get 0 rfl (by kernel_rfl) rfl)) ?_ ?_
           ·
            intro a w' hr hs
            have h6 : a.tmps[6]?.getD undef = .int .i64 t77 := hs.out 6 (by kernel_rfl)
            go_simp
           refine rg_val (.bool true) Grows.refl rfl (fun a w hr hs => on_guard (g := 7) (t := 75) rfl rfl (hs.get 1 rfl (by kernel_rfl) rfl)) ?_ ?_
           ·
            intro a w' hr hs
            have h76 : a.tmps[76]?.getD undef = .int .i64 t77 := hs.get 0 rfl (by kernel_rfl) rfl
            go_simp
           refine rg_val (.bool true) Grows.refl rfl (fun _ _ _ _ => wanted_none rfl) ?_ ?_
           ·
            intro a w' hr hs
            have h75 : a.tmps[75]?.getD undef = .bool true := hs.get 2 rfl (by kernel_rfl) rfl
            have h77 : a.tmps[77]?.getD undef = .bool true := hs.get 0 rfl (by kernel_rfl) rfl
            go_simp
           refine rg_val (.bool true) Grows.refl rfl (fun _ _ _ _ => wanted_none rfl) ?_ ?_
           ·
            intro a w' hr hs
            have h78 : a.tmps[78]?.getD undef = .bool true := hs.get 0 rfl (by kernel_rfl) rfl
            go_simp
           refine rg_val (.agg #[.int .i64 t72, .int .i64 t73, .int .u64 t74, .string t75, .slice Au417 t76.length cu417]) Grows.refl rfl (fun a w hr hs => on_guard (g := 11) (t := 79) rfl rfl (hs.get 0 rfl (by kernel_rfl) rfl)) ?_ ?_
           ·
            intro a w' hr hs
            have h5 : a.tmps[5]?.getD undef = .pointer (some ⟨b79_, 0, none⟩) := hs.out 5 (by kernel_rfl)
            have x := hr.at (at_drew HXb79.out)
            have x0 := cell_at x 0
            have x1 := cell_at x 1
            have x2 := cell_at x 2
            have x3 := cell_at x 3
            have x4 := cell_at x 4
            simp only [List.getElem?_toArray, List.getElem?_cons_zero, List.getElem?_cons_succ] at x0 x1 x2 x3 x4
            go_simp
           refine rg_call (OneR k35 35 t86 (fun u => .agg #[.int .i64 t82, .int .i64 t83, .int .u64 t84, .string t85, u])) OneR.grows rfl rfl Try.func11 (by kernel_rfl) rfl (fun a w hr hs => on_guard (g := 11) (t := 79) rfl rfl (hs.get 1 rfl (by kernel_rfl) rfl)) ?_ ?_
           ·
            intro a w' hr hs
            rw [show (#[] : Array Operand).map a.eval = #[] by simp]
            refine (chaperonlaw16_three.calls t82 t83 t84 t85 t86 _ F87.out).mono ?_
            rintro e w3 ⟨v, rfl, hR, hb⟩
            exact ⟨_, rfl, hb, OneR.of hR⟩
           refine rg_call (fun v _ => v = .bool t88) (fun _ _ _ _ h => h) rfl rfl Try.func14 (by kernel_rfl) rfl (fun a w hr hs => on_guard (g := 11) (t := 79) rfl rfl (hs.get 2 rfl (by kernel_rfl) rfl)) ?_ ?_
           ·
            intro a w' hr hs
            have h80 : a.tmps[80]?.getD undef = .agg #[.int .i64 t72, .int .i64 t73, .int .u64 t74, .string t75, .slice Au417 t76.length cu417] := hs.get 1 rfl (by kernel_rfl) rfl
            have g81 : OneR k35 35 t86 (fun u => .agg #[.int .i64 t82, .int .i64 t83, .int .u64 t84, .string t85, u]) (a.tmps[81]?.getD undef) w' := hs.get 0 rfl (by kernel_rfl) rfl
            obtain ⟨A81, c81, h81, hc81, hC81, hR81⟩ := g81.reads
            replace h81 : a.tmps[81]?.getD undef = .agg #[.int .i64 t82, .int .i64 t83, .int .u64 t84, .string t85, .slice A81 t86.length c81] := h81
            rw [show (#[Operand.tmp 80, Operand.tmp 81] : Array Operand).map a.eval = #[.agg #[.int .i64 t72, .int .i64 t73, .int .u64 t74, .string t75, .slice Au417 t76.length cu417], .agg #[.int .i64 t82, .int .i64 t83, .int .u64 t84, .string t85, .slice A81 t86.length c81]] by simp [Act.eval, h80, h81]]
            refine (chaperonkit_SameValue.calls k t72 t73 t74 t75 Au417 cu417 t76 t82 t83 t84 t85 A81 c81 t86 t88 _ (Kd.C_below (Kd.C_drew HCu417.out) hr) hcu417 hC81 hc81 F89.out).mono ?_
            rintro e w3 ⟨rfl, hb⟩
            exact ⟨_, rfl, hb, rfl⟩
           refine rg_val (.bool t88) Grows.refl rfl (fun _ _ _ _ => wanted_none rfl) ?_ ?_
           ·
            intro a w' hr hs
            have h79 : a.tmps[79]?.getD undef = .bool true := hs.get 3 rfl (by kernel_rfl) rfl
            have h82 : a.tmps[82]?.getD undef = .bool t88 := hs.get 0 rfl (by kernel_rfl) rfl
            go_simp
           refine rg_val (.bool t88) Grows.refl rfl (fun _ _ _ _ => wanted_none rfl) ?_ ?_
           ·
            intro a w' hr hs
            have h83 : a.tmps[83]?.getD undef = .bool t88 := hs.get 0 rfl (by kernel_rfl) rfl
            go_simp
           intro vs w6_ hr hE
           have e16 : vs 16 = .bool t88 := hE _ (mem_at 0 rfl)
           have hg : Grows w5_as w6_ := Below.trans (Below.refl w5_as.heap.size w5_as).drew hr
           clear hE hr
           rw [show List.range 17 = [0, 1, 2, 3, 4, 5, 6, 7, 8, 9, 10, 11, 12, 13, 14, 15, 16] from rfl]
           simp only [putL, slotOf, List.getElem?_toArray, List.getElem?_cons_zero, List.getElem?_cons_succ, Option.bind_some, Act.put, List.setIfInBounds_toArray, List.set_cons_succ, List.set_cons_zero, e16]
           clear e16
           refine tail_end ?_
           simp only [Exit.then]
           replace HCu416 := Aside0.mk (Kd.C_below HCu416.out hg)
           replace HCu417 := Aside0.mk (Kd.C_below HCu417.out hg)
           replace HXb3 := Aside0.mk (hg.at HXb3.out)
           replace HXb79 := Aside0.mk (hg.at HXb79.out)
           replace HB := Aside0.mk (HB.out.trans (Below.mono hg HB.out.size))
           clear hg
           go_wp2_with fail
           go_ret
           exact ⟨rfl, HB.out⟩
          ·
           rw [if_neg q415] at h
           cases h
         ·
          rw [if_neg q414] at h
          cases h
        ·
         rw [if_neg q413] at h
         cases h
       ·
        rw [if_neg q412] at h
        cases h
      ·
       rw [if_neg q411] at h
       cases h
     ·
      rw [if_neg q410] at h
      cases h
    ·
     rw [if_neg q409] at h
     cases h
   ·
    rw [if_neg q408] at h
    cases h
  ·
   rw [if_neg q407] at h
   cases h
 ·
  rw [if_neg q406] at h
  cases h
end Go.Proofs.Ytinkbljjpafadaa.PAll
end

section
namespace Go.Proofs.Ytinkbljjpafadaa.PAll
open Go.RowKit Go.Proofs.YtinkbljjpafadaaW.PrintWords Go.Proofs.YtinkbljjpafadaaW.PrintLast Go.Proofs.YtinkbljjpafadaaOpen
set_option linter.unusedVariables false
def chaperonlaw16_CoerceKnown.Pure : Prop := ∃ k, chaperonlaw16_CoerceKnown.f k  = some true
end Go.Proofs.Ytinkbljjpafadaa.PAll
end

section
namespace Go.Proofs.Ytinkbljjpafadaa.Pure
open Go.RowKit Go.Proofs.Ytinkbljjpafadaa.PAll Go.Proofs.YtinkbljjpafadaaW.PrintWords Go.Proofs.YtinkbljjpafadaaW.PrintLast
theorem CoerceKnown : chaperonlaw16_CoerceKnown.Pure := ⟨12, by kernel_rfl⟩
end Go.Proofs.Ytinkbljjpafadaa.Pure
end
