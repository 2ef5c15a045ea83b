-- WRITTEN BY hand.py of this session, over the kit's print: a text of this seat
import Derived.Test.YtnefifgfpljlkaaPAllx0
import Derived.Test.YtnefifgfpljlkaaPAllx5
namespace Go.Proofs.Ytnefifgfpljlkaa.PAll
open Go.RowKit Go.Proofs.YtnefifgfpljlkaaW.PrintWords Go.Proofs.YtnefifgfpljlkaaW.PrintLast Go.Proofs.YtnefifgfpljlkaaW.PrintMore
attribute [local go_sem] max2_int min2_int max_two min_two max_three min_three max_four min_four   -- for this text's walks alone
set_option linter.unusedVariables false
set_option linter.unusedSimpArgs false

/-! ### cmp_Compare_string: function 42 -/
def cmp_Compare_string.f (a0 : ByteArray) (a1 : ByteArray) : Option Int := some (if Op.bytesLess a0.toList a1.toList = true then -1 else if (a0.toList == a1.toList) = true then 0 else 1)
theorem cmp_Compare_string.calls (a0 : ByteArray) (a1 : ByteArray) (r : Int) (w : World) (h : cmp_Compare_string.f a0 a1 = some r) :
    Calls Try.prog 42 #[.string a0, .string a1] w fun e w' => e = .returned (.int .i64 r) ∧ Drawn0 w w' := by
  have H := Aside0.mk (Option.some.inj h)
  clear h
  have n0 : cmp_isNaN_string.f a0 = some false := by unfold cmp_isNaN_string.f; simp
  have n1 : cmp_isNaN_string.f a1 = some false := by unfold cmp_isNaN_string.f; simp
  have N0 := Aside0.mk n0
  have N1 := Aside0.mk n1
  clear n0 n1
  cases hl : Op.bytesLess a0.toList a1.toList with
  | true =>
    have H2 := H.out
    rw [hl, if_pos rfl] at H2
    subst H2
    go_enter Try.func42, Try.ntmps42
    go_wp2_with fail
    refine (cmp_isNaN_string.calls a0 false _ N0.out).mono ?_
    rintro e w' ⟨rfl, hb⟩
    obtain ⟨k1, rfl⟩ := hb
    go_wp2_with fail
    refine (cmp_isNaN_string.calls a1 false _ N1.out).mono ?_
    rintro e w' ⟨rfl, hb⟩
    obtain ⟨k2, rfl⟩ := hb
    go_wp2_with fail
    go_ret
    exact ⟨rfl, by repeat (first | exact Drawn0.refl _ | apply Drawn0.step)⟩
  | false =>
    cases he : (a0.toList == a1.toList) with
    | true =>
      have H2 := H.out
      rw [hl, he, if_neg (by decide), if_pos rfl] at H2
      subst H2
      go_enter Try.func42, Try.ntmps42
      go_wp2_with fail
      refine (cmp_isNaN_string.calls a0 false _ N0.out).mono ?_
      rintro e w' ⟨rfl, hb⟩
      obtain ⟨k1, rfl⟩ := hb
      go_wp2_with fail
      refine (cmp_isNaN_string.calls a1 false _ N1.out).mono ?_
      rintro e w' ⟨rfl, hb⟩
      obtain ⟨k2, rfl⟩ := hb
      go_wp2_with fail
      go_ret
      exact ⟨rfl, by repeat (first | exact Drawn0.refl _ | apply Drawn0.step)⟩
    | false =>
      have H2 := H.out
      rw [hl, he, if_neg (by decide), if_neg (by decide)] at H2
      subst H2
      go_enter Try.func42, Try.ntmps42
      go_wp2_with fail
      refine (cmp_isNaN_string.calls a0 false _ N0.out).mono ?_
      rintro e w' ⟨rfl, hb⟩
      obtain ⟨k1, rfl⟩ := hb
      go_wp2_with fail
      refine (cmp_isNaN_string.calls a1 false _ N1.out).mono ?_
      rintro e w' ⟨rfl, hb⟩
      obtain ⟨k2, rfl⟩ := hb
      go_wp2_with fail
      go_ret
      exact ⟨rfl, by repeat (first | exact Drawn0.refl _ | apply Drawn0.step)⟩

/-! ### opers_order_string: function 26 -/
def opers_order_string.f (a0 : ByteArray) (a1 : ByteArray) : Option (Int) := (cmp_Compare_string.f a0 a1).bind fun t109 => (some t109)
set_option maxHeartbeats 8000000 in
set_option maxRecDepth 100000 in
theorem opers_order_string.calls (a0 : ByteArray) (a1 : ByteArray) (r : Int) (w : World) (h : opers_order_string.f a0 a1 = some r) :
    Calls Try.prog 26 #[.string a0, .string a1] w fun e w' => e = .returned (.int .i64 r) ∧ Drawn0 w w' := by
  have H : ((cmp_Compare_string.f a0 a1).bind fun t109 => (some t109)) = some r := h
  clear h
  replace H := Option.bind_eq_some_iff.mp H
  obtain ⟨t109, A30, H⟩ := H
  replace H : (some t109) = some r := H
  have A3 := Aside0.mk A30
  clear A30
  obtain rfl := Option.some.inj H
  go_enter Try.func26, Try.ntmps26
  go_wp2_with (first | ((with_reducible refine gate_callee (f := 42) rfl ?_); refine goesL_ (some 7) rfl rfl Try.func42 (by kernel_rfl) rfl #[.string a0, .string a1] rfl (by (try simp only [List.map_toArray, List.map_cons, List.map_nil]); first | done | rfl | (simp only [List.length_drop, List.length_take]; rfl)) ?_; (with_reducible refine (cmp_Compare_string.calls a0 a1 t109 _ A3.out).mono ?_); rintro e w' ⟨rfl, ⟨nd, rfl⟩⟩; refine ⟨_, rfl, ?_⟩))
  go_ret
  exact ⟨by first | rfl | (simp; done) | (simp [*]; done), by repeat (first | exact Drawn0.refl _ | apply Drawn0.step)⟩

end Go.Proofs.Ytnefifgfpljlkaa.PAll
