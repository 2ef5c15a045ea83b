/- opers: sums of ints, and of texts. -/
import Derived.Test.YtnefifgfpljlkaaInts
import Derived.Defers
import Derived.Recover
namespace Go.Proofs.YtnefifgfpljlkaaAdds
open Go.RowKit Go.Proofs.YtnefifgfpljlkaaW.PrintWords Go.Proofs.YtnefifgfpljlkaaW.PrintLast Go.Proofs.YtnefifgfpljlkaaRF Go.Proofs.YtnefifgfpljlkaaRG Go.Proofs.YtnefifgfpljlkaaMp Go.Proofs.YtnefifgfpljlkaaWords Go.Proofs.YtnefifgfpljlkaaOpers Go.Proofs.YtnefifgfpljlkaaInts
set_option linter.unusedSimpArgs false
set_option linter.unusedVariables false
attribute [local go_sem] Oper.semAt_some
abbrev V (t n b : Int) (s : ByteArray) (A : Option Addr) (m c : Nat) : Value := .agg #[.int .i64 t, .int .i64 n, .int .u64 b, .string s, .slice A m c]
theorem whole_calls (n : Int) (w : World) : Calls Try.prog 70 #[.int .i64 n] w fun e w' => e = .returned (.agg #[.int .i64 1, .int .i64 n, .int .u64 0, .string ⟨#[]⟩, .slice none 0 0]) ∧ Below w.heap.size w w' := by
  have hv := Try.underlying72
  go_enter Try.func70, Try.ntmps70
  go_wp2
  exact bodyPost_ret (v := .agg #[.int .i64 1, .int .i64 n, .int .u64 0, .string ⟨#[]⟩, .slice none 0 0]) (by simp [results, Try.results70, go_sem]) rfl ⟨rfl, by first | exact (Below.refl _ _).alloc (Nat.le_refl _) _⟩
set_option maxHeartbeats 4000000 in
set_option maxRecDepth 100000 in
theorem number_plus (n b : Int) (s : ByteArray) (A : Option Addr) (m c : Nat) (t2 n2 b2 : Int) (s2 : ByteArray) (A2 : Option Addr) (m2 c2 : Nat) (w : World) :
    Calls Try.prog 61 #[.agg #[.int .i64 1, .int .i64 n, .int .u64 b, .string s, .slice A m c], .string ⟨#[43]⟩, .agg #[.int .i64 t2, .int .i64 n2, .int .u64 b2, .string s2, .slice A2 m2 c2]] w fun e w' => e = .returned (.agg #[.int .i64 1, .int .i64 (wrap64 (n + n2)), .int .u64 0, .string ⟨#[]⟩, .slice none 0 0]) ∧ Below w.heap.size w w' := by
  have hv := Try.underlying72
  go_enter Try.func61, Try.ntmps61
  go_wp2_with fail
  refine (Do_plus _ _ _).mono ?_
  rintro e w1 ⟨rfl, hb1⟩
  have HG1 := Aside0.mk ((hb1.block (w.heap.size + 1 + 1) (by simp)).trans (at_new ((w.alloc (.cells #[.int .i64 1, .int .i64 n, .int .u64 b, .string s, .slice A m c] 72)).alloc (.cells #[.int .i64 t2, .int .i64 n2, .int .u64 b2, .string s2, .slice A2 m2 c2] 72)) (.cells #[.int .i64 0, .int .i64 0, .int .u64 0, .string ⟨#[]⟩, .slice none 0 0] 72 (0, 0)) (by simp)))
  have HB1 := Aside0.mk (((((Below.refl w.heap.size w).alloc (Nat.le_refl _) (.cells #[.int .i64 1, .int .i64 n, .int .u64 b, .string s, .slice A m c] 72)).alloc (by simp) (.cells #[.int .i64 t2, .int .i64 n2, .int .u64 b2, .string s2, .slice A2 m2 c2] 72)).alloc (by simp; omega) (.cells #[.int .i64 0, .int .i64 0, .int .u64 0, .string ⟨#[]⟩, .slice none 0 0] 72 (0, 0))).trans (hb1.mono (by simp; omega)))
  clear hb1
  go_wp2_with fail
  refine (whole_calls _ _).mono ?_
  rintro e w2 ⟨rfl, hb2⟩
  have HG2 := Aside0.mk ((hb2.block _ (lt_of_at HG1.out)).trans HG1.out)
  have HB2 := Aside0.mk (HB1.out.trans (hb2.mono HB1.out.size))
  clear hb2 HG1 HB1
  have g0 := cell_at HG2.out 0
  have f0 := free_at HG2.out 0
  have g1 := cell_at HG2.out 1
  have f1 := free_at HG2.out 1
  have g2 := cell_at HG2.out 2
  have f2 := free_at HG2.out 2
  have g3 := cell_at HG2.out 3
  have f3 := free_at HG2.out 3
  have g4 := cell_at HG2.out 4
  have f4 := free_at HG2.out 4
  simp only [List.getElem?_toArray, List.getElem?_cons_zero, List.getElem?_cons_succ] at g0 g1 g2 g3 g4
  go_wp2_with fail
  refine bodyPost_ret (v := .agg #[.int .i64 1, .int .i64 (wrap64 (n + n2)), .int .u64 0, .string ⟨#[]⟩, .slice none 0 0]) (results_cell_row rfl _ _ (w.heap.size + 1 + 1) 72 _ (0, 0) _ rfl (blk_put (blk_put (blk_put (blk_put (blk_put HG2.out 0 _ rfl) 1 _ rfl) 2 _ rfl) 3 _ rfl) 4 _ rfl) hv rfl (by kernel_rfl)) rfl ⟨rfl, ?_⟩
  exact below_set (below_set (below_set (below_set (below_set HB2.out (by omega)) (by omega)) (by omega)) (by omega)) (by omega)
set_option maxHeartbeats 4000000 in
set_option maxRecDepth 100000 in
theorem adds_int (n b : Int) (s : ByteArray) (A : Option Addr) (m c : Nat) (t2 n2 b2 : Int) (s2 : ByteArray) (A2 : Option Addr) (m2 c2 : Nat) (w : World) :
    Calls Try.prog 47 #[.agg #[.int .i64 1, .int .i64 n, .int .u64 b, .string s, .slice A m c], .agg #[.int .i64 t2, .int .i64 n2, .int .u64 b2, .string s2, .slice A2 m2 c2]] w fun e w' => e = .returned (.agg #[.int .i64 1, .int .i64 (wrap64 (n + n2)), .int .u64 0, .string ⟨#[]⟩, .slice none 0 0]) ∧ Below w.heap.size w w' := by
  have hv := Try.underlying72
  go_enter Try.func47, Try.ntmps47
  go_wp2_with fail
  refine (number_plus n b s A m c t2 n2 b2 s2 A2 m2 c2 _).mono ?_
  rintro e w1 ⟨rfl, hb1⟩
  have HG1 := Aside0.mk ((hb1.block (w.heap.size + 1 + 1) (by simp)).trans (at_new ((w.alloc (.cells #[.int .i64 1, .int .i64 n, .int .u64 b, .string s, .slice A m c] 72)).alloc (.cells #[.int .i64 t2, .int .i64 n2, .int .u64 b2, .string s2, .slice A2 m2 c2] 72)) (.cells #[.int .i64 0, .int .i64 0, .int .u64 0, .string ⟨#[]⟩, .slice none 0 0] 72 (0, 0)) (by simp)))
  have HB1 := Aside0.mk (((((Below.refl w.heap.size w).alloc (Nat.le_refl _) (.cells #[.int .i64 1, .int .i64 n, .int .u64 b, .string s, .slice A m c] 72)).alloc (by simp) (.cells #[.int .i64 t2, .int .i64 n2, .int .u64 b2, .string s2, .slice A2 m2 c2] 72)).alloc (by simp; omega) (.cells #[.int .i64 0, .int .i64 0, .int .u64 0, .string ⟨#[]⟩, .slice none 0 0] 72 (0, 0))).trans (hb1.mono (by simp; omega)))
  clear hb1
  have g0 := cell_at HG1.out 0
  have f0 := free_at HG1.out 0
  have g1 := cell_at HG1.out 1
  have f1 := free_at HG1.out 1
  have g2 := cell_at HG1.out 2
  have f2 := free_at HG1.out 2
  have g3 := cell_at HG1.out 3
  have f3 := free_at HG1.out 3
  have g4 := cell_at HG1.out 4
  have f4 := free_at HG1.out 4
  simp only [List.getElem?_toArray, List.getElem?_cons_zero, List.getElem?_cons_succ] at g0 g1 g2 g3 g4
  go_wp2_with fail
  refine bodyPost_ret (v := .agg #[.int .i64 1, .int .i64 (wrap64 (n + n2)), .int .u64 0, .string ⟨#[]⟩, .slice none 0 0]) (results_cell_row rfl _ _ (w.heap.size + 1 + 1) 72 _ (0, 0) _ rfl (blk_put (blk_put (blk_put (blk_put (blk_put HG1.out 0 _ rfl) 1 _ rfl) 2 _ rfl) 3 _ rfl) 4 _ rfl) hv rfl (by kernel_rfl)) rfl ⟨rfl, ?_⟩
  exact below_set (below_set (below_set (below_set (below_set HB1.out (by omega)) (by omega)) (by omega)) (by omega)) (by omega)
set_option maxHeartbeats 4000000 in
set_option maxRecDepth 100000 in
theorem adds_str (n b : Int) (s : ByteArray) (A : Option Addr) (m c : Nat) (t2 n2 b2 : Int) (s2 : ByteArray) (A2 : Option Addr) (m2 c2 : Nat) (w : World) (hs : s.size + s2.size ≤ 1000) :
    Calls Try.prog 47 #[.agg #[.int .i64 4, .int .i64 n, .int .u64 b, .string s, .slice A m c], .agg #[.int .i64 t2, .int .i64 n2, .int .u64 b2, .string s2, .slice A2 m2 c2]] w fun e w' => e = .returned (.agg #[.int .i64 4, .int .i64 0, .int .u64 0, .string (s ++ s2), .slice none 0 0]) ∧ Below w.heap.size w w' := by
  have hd : decide (1000 < (s.size : Int) + (s2.size : Int)) = false := by simp; omega
  have hd2 : ¬ (1000 < (s.size : Int) + (s2.size : Int)) := by omega
  have hv := Try.underlying72
  go_enter Try.func47, Try.ntmps47
  go_wp2
  refine bodyPost_ret (v := .agg #[.int .i64 4, .int .i64 0, .int .u64 0, .string (s ++ s2), .slice none 0 0]) (by simp [results, Try.results47, go_sem]) rfl ⟨rfl, ?_⟩
  exact (((Below.refl w.heap.size w).alloc (Nat.le_refl _) _).alloc (by simp) _).alloc (by simp; omega) _
end Go.Proofs.YtnefifgfpljlkaaAdds
