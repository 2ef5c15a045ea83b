/- The statement's row: the theorem that is claimed. No conditions. -/
import Derived.Test.YtinkbljjpafadaaRows
import Derived.Test.YtinkbljjpafadaaKC5
import Derived.WalkKit
import Derived.ProofKit
import Derived.OpenShut
import Derived.ShutString
import Derived.ChangeOld
import Derived.Below
import Derived.SizedLaws
namespace Go.Proofs.Ytinkbljjpafadaa.coerceShort
open Go.ChangeShapes Go.WideShapes Go.ChangeAt Go.RowKit Go.Proofs.YtinkbljjpafadaaOpen Go.Proofs.Ytinkbljjpafadaa.PAll Go.Proofs.YtinkbljjpafadaaW.PrintWords Go.Proofs.YtinkbljjpafadaaW.PrintLast
open Go.ChangeMaps (open_string shut_string)
set_option linter.unusedVariables false
theorem own : ownKnob Try.prog.godebug = none := by kernel_rfl
theorem laidOut : laidOutB Try.prog = true := by kernel_rfl
set_option maxRecDepth 100000 in
theorem lifted (os : Os) (started : os.Started) (H : Type) (enc : TypeId × Value → H) :
  ReturnsInHanded {} Try.checked os 4 .any (Rows.coerceShortSpec.pre6 enc Try.prog Try.f4 Rows.coerceShortRow.domain false) (Rows.coerceShortSpec.post enc Try.prog Try.f4 false true false false) := by
 refine returnsInHanded_of_change_sized (C := Try.checked) own started (by kernel_rfl) Try.func4
  (ChangeSpec.witness6 (enc := enc) (C := Try.checked) false ⟨#[], #[.slice none 0 0, .agg #[.int .i64 0, .int .i64 0, .int .u64 0, .string ByteArray.empty, .slice none 0 0], .string ByteArray.empty, .int .i64 0, .agg #[.int .i64 0, .int .i64 0, .int .u64 0, .string ByteArray.empty, .slice none 0 0]], []⟩ 8 (by kernel_rfl) (by kernel_rfl) (by kernel_rfl) (by kernel_rfl)) ?_
 intro W base args ds gs before hval0 hW hcnd hsz0 _
 have hval : ∀ (j : Nat) t v, Try.f4.params[j]? = some t → args[j]? = some v → Value.okWide Try.prog W .any base t v := hval0
 have hW' := hW
 obtain ⟨p, q, hA0, hV, rfl, hfz, hnd⟩ := hW
 have hA : DataW.TrodAll enc Try.prog W 0 (fun _ => true) true Try.f4.params.toList args.toList ds p := hA0
 rw [Try.params4] at hA hval
 obtain ⟨v0, vs0, d0, ds0, p0, q0, hargs, rfl, rfl, h0, r0⟩ := trodAll_cons hA
 obtain ⟨v1, vs1, d1, ds1, p1, q1, rfl, rfl, rfl, h1, r1⟩ := trodAll_cons r0
 obtain ⟨v2, vs2, d2, ds2, p2, q2, rfl, rfl, rfl, h2, r2⟩ := trodAll_cons r1
 obtain ⟨v3, vs3, d3, ds3, p3, q3, rfl, rfl, rfl, h3, r3⟩ := trodAll_cons r2
 obtain ⟨v4, vs4, d4, ds4, p4, q4, rfl, rfl, rfl, h4, r4⟩ := trodAll_cons r3
 obtain ⟨rfl, rfl, rfl⟩ := trodAll_nil r4
 obtain rfl : args = #[v0, v1, v2, v3, v4] := by cases args; simp_all
 obtain ⟨rfl, rfl⟩ := trodVars_none hV
 obtain ⟨A0, len0, c0, rfl⟩ := okWide_slice Try.underlying22 (hval 0 22 v0 rfl rfl)
 have k0 := h0
 have lt0 : ∀ x ∈ p0, x.block < W.heap.size := by obtain ⟨m, hm⟩ := k0; exact DataW.trod_lt m _ _ _ hm
 obtain ⟨l0, rfl, hr0, hc0, hm0, hw0⟩ := opened_slice (opens_slice Try.underlying22 (by kernel_rfl) opens64) h0
 obtain ⟨cs1, rfl, _⟩ := okWide_struct Try.underlying27 (hval 1 27 v1 rfl rfl)
 have k1 := h1
 have lt1 : ∀ x ∈ p1, x.block < W.heap.size := by obtain ⟨m, hm⟩ := k1; exact DataW.trod_lt m _ _ _ hm
 obtain ⟨x1, hK1, hw1⟩ := opened_struct opens27 h1
 obtain ⟨A1_4, c1_4, hcs1, hc1_4, hr1_4⟩ := k27_open hK1
 obtain rfl : cs1 = #[.int .i64 x1.f0, .int .i64 x1.f1, .int .u64 x1.f2, .string x1.f3, .slice A1_4 x1.f4.length c1_4] := by rw [← Array.toList_inj, hcs1]
 obtain ⟨a2, rfl, rfl, rfl, y2⟩ := open_string Try.underlying9 (hval 2 9 v2 rfl rfl) h2
 obtain ⟨a3, rfl, rfl, rfl, w3⟩ := open_int Try.underlying3 (hval 3 3 v3 rfl rfl) h3
 obtain ⟨cs4, rfl, _⟩ := okWide_struct Try.underlying27 (hval 4 27 v4 rfl rfl)
 have k4 := h4
 have lt4 : ∀ x ∈ p4, x.block < W.heap.size := by obtain ⟨m, hm⟩ := k4; exact DataW.trod_lt m _ _ _ hm
 obtain ⟨x4, hK4, hw4⟩ := opened_struct opens27 h4
 obtain ⟨A4_4, c4_4, hcs4, hc4_4, hr4_4⟩ := k27_open hK4
 obtain rfl : cs4 = #[.int .i64 x4.f0, .int .i64 x4.f1, .int .u64 x4.f2, .string x4.f3, .slice A4_4 x4.f4.length c4_4] := by rw [← Array.toList_inj, hcs4]
 clear hA0 hval0 hsz0
 obtain ⟨k_, h_⟩ := Pure.CoerceShort l0 x1 a2 a3 x4 hm0 hw0 hw1 y2 w3 hw4
 refine (PAll.chaperonlaw16_CoerceShort.calls k_ A0 c0 l0 x1.f0 x1.f1 x1.f2 x1.f3 A1_4 c1_4 x1.f4 a2 a3 x4.f0 x4.f1 x4.f2 x4.f3 A4_4 c4_4 x4.f4 true W hr0 hc0 hr1_4 hc1_4 hr4_4 hc4_4 h_).mono ?_
 rintro e W' ⟨he, bel⟩
 subst he
 exact ⟨_, rfl, _, _, _, [], _, [], hW', trodAll_mk1 (shut_bool Try.underlying4 _), (trodAll_cons_mk (Below.trod laidOut (by kernel_rfl) (of_decide_eq_true (by kernel_rfl)) k0 bel lt0) (trodAll_cons_mk (Below.trod laidOut (by kernel_rfl) (of_decide_eq_true (by kernel_rfl)) k1 bel lt1) (trodAll_cons_mk (shut_string Try.underlying9 y2) (trodAll_cons_mk (shut_int Try.underlying3 w3) (trodAll_cons_mk (Below.trod laidOut (by kernel_rfl) (of_decide_eq_true (by kernel_rfl)) k4 bel lt4) trodAll_mk0))))), rfl, bel.frame _, fun h => by cases h⟩
theorem over : Rows.coerceShortRow.holds Try.pinned (OpenSpec.ofChange Rows.coerceShortSpec) :=
 OpenClaim.holds_of_wide 4 Try.f4 rfl rfl rfl rfl rfl rfl rfl ⟨rfl, rfl, rfl, rfl, rfl⟩ rfl rfl rfl rfl rfl (by kernel_rfl) Try.func4 (by kernel_rfl)
  (of_decide_eq_true (by kernel_rfl)) (by unfold Func.isWrapper; first | (rw [if_pos (by decide +kernel)]; kernel_rfl) | (rw [if_neg (by decide +kernel)]; exact ⟨rfl, rfl⟩))
  (fun os started H enc _ => lifted os started H enc)
theorem proved : Rows.CoerceShortSaid := over
#print axioms proved
end Go.Proofs.Ytinkbljjpafadaa.coerceShort
namespace Go.Proofs.Ytinkbljjpafadaa
theorem coerceShort_holds : Rows.CoerceShortSaid := coerceShort.proved
end Go.Proofs.Ytinkbljjpafadaa
