-- WRITTEN BY hand.py of this session, over the kit's print: a text of this seat
import Derived.Test.YtnefifgfpljlkaaPAllx0
import Derived.Test.YtnefifgfpljlkaaPAllx10
namespace Go.Proofs.Ytnefifgfpljlkaa.PAll
open Go.RowKit Go.Proofs.YtnefifgfpljlkaaW.PrintWords Go.Proofs.YtnefifgfpljlkaaW.PrintLast Go.Proofs.YtnefifgfpljlkaaW.PrintMore
attribute [local go_sem] max2_int min2_int max_two min_two max_three min_three max_four min_four   -- for this text's walks alone
set_option linter.unusedVariables false
set_option linter.unusedSimpArgs false

/-! ### words_Type: function 30 -/
def words_Type.f (a0 : ByteArray) : Option (Bool) := (words_Kind.f a0).bind fun t135 => (some (t135 != 0))
set_option maxHeartbeats 8000000 in
set_option maxRecDepth 100000 in
theorem words_Type.calls (a0 : ByteArray) (r : Bool) (w : World) (h : words_Type.f a0 = some r) :
    Calls Try.prog 30 #[.string a0] w fun e w' => e = .returned (.bool r) ∧ Below w.heap.size w w' := by
  have HB := Aside0.mk (Below.refl w.heap.size w)
  have H : ((words_Kind.f a0).bind fun t135 => (some (t135 != 0))) = some r := h
  clear h
  replace H := Option.bind_eq_some_iff.mp H
  obtain ⟨t135, A20, H⟩ := H
  replace H : (some (t135 != 0)) = some r := H
  have A2 := Aside0.mk A20
  clear A20
  obtain rfl := Option.some.inj H
  go_enter Try.func30, Try.ntmps30
  go_wp2_with (first | ((with_reducible refine gate_callee (f := 54) rfl ?_); refine goesL_ (some 4) rfl rfl Try.func54 (by kernel_rfl) rfl #[.string a0] rfl (by (try simp only [List.map_toArray, List.map_cons, List.map_nil]); first | done | rfl | (simp only [List.length_drop, List.length_take]; rfl)) ?_; (with_reducible refine (words_Kind.calls a0 t135 _ A2.out).mono ?_); rintro e w3 ⟨rfl, hb⟩; refine ⟨_, rfl, ?_⟩; have n0_ := Aside0.mk (below_step (by repeat (first | (with_reducible first | exact HB.out | apply below_alloc | apply pw_below_drewN | apply below_drew1) | exact HB.out)) hb); clear HB; have HB := n0_; clear n0_; (try clear hb); (try clear hb2); (try clear hk); (try clear hi)))
  go_ret
  exact ⟨by first | rfl | (simp [errW_none, errW_some] <;> rfl) | (simp [*, errW_none, errW_some] <;> rfl), by repeat (first | (with_reducible first | exact HB.out | apply below_alloc | apply pw_below_drewN | apply below_drew1) | exact HB.out)⟩

/-! ### opers_logical: function 31 -/
def opers_logical.lg (s : ByteArray) : Bool := s.toList == ([98, 111, 111, 108] : List UInt8) || s.toList == ([63] : List UInt8)
def opers_logical.f (a0 : ByteArray) (a1 : ByteArray) : Option (ByteArray × ByteArray × Bool × Int) := if opers_logical.lg a0 = true then (if opers_logical.lg a1 = true then some (⟨#[98, 111, 111, 108]⟩, ⟨#[98, 111, 111, 108]⟩, false, 0) else some (⟨#[]⟩, ⟨#[]⟩, false, 7)) else some (⟨#[]⟩, ⟨#[]⟩, false, 7)
theorem opers_logical.no {s : ByteArray} (h : opers_logical.lg s = false) : (s.toList == ([98, 111, 111, 108] : List UInt8)) = false ∧ (s.toList == ([63] : List UInt8)) = false := by
  unfold opers_logical.lg at h
  exact Bool.or_eq_false_iff.1 h
theorem opers_logical.yes {s : ByteArray} (h : opers_logical.lg s = true) : (s.toList == ([98, 111, 111, 108] : List UInt8)) = true ∨ ((s.toList == ([98, 111, 111, 108] : List UInt8)) = false ∧ (s.toList == ([63] : List UInt8)) = true) := by
  unfold opers_logical.lg at h
  cases hb : (s.toList == ([98, 111, 111, 108] : List UInt8)) with
  | true => exact .inl rfl
  | false => rw [hb] at h; exact .inr ⟨rfl, by simpa using h⟩
set_option maxHeartbeats 1000000 in
set_option maxRecDepth 100000 in
theorem opers_logical.calls (a0 : ByteArray) (a1 : ByteArray) (r1 : ByteArray) (r2 : ByteArray) (r3 : Bool) (r4 : Int) (w : World) (h : opers_logical.f a0 a1 = some (r1, r2, r3, r4)) :
    Calls Try.prog 31 #[.string a0, .string a1] w fun e w' => e = .returned (.tuple #[.agg #[.string r1, .string r2, .bool r3], .int .i64 r4]) ∧ Below w.heap.size w w' := by
  unfold opers_logical.f at h
  have H := Aside0.mk h
  clear h
  have hu := Try.underlying33
  have i0 : ∀ w, (Instr.index 81 (.agg #[.string a0, .string a1]) (.int .i64 0)).run Try.prog w = .ok (.string a0) w := fun _ => by kernel_rfl
  have i1 : ∀ w, (Instr.index 81 (.agg #[.string a0, .string a1]) (.int .i64 1)).run Try.prog w = .ok (.string a1) w := fun _ => by kernel_rfl
  go_enter Try.func31, Try.ntmps31
  go_wp2
  go_loop [11] (fun v11 => (v11 = .int .i64 0) ∨ (v11 = .int .i64 1 ∧ Aside0 (opers_logical.lg a0 = true)) ∨ (v11 = .int .i64 2 ∧ Aside0 (opers_logical.lg a0 = true ∧ opers_logical.lg a1 = true))) (fun v11 => 2 - (intOf v11).toNat)
  case atStart => exact .inl rfl
  case round =>
    rcases hrel with rfl | ⟨rfl, HL⟩ | ⟨rfl, HL⟩
    · cases hl : opers_logical.lg a0 with
      | false =>
        obtain ⟨q1, q2⟩ := opers_logical.no hl
        have h := H.out; rw [hl] at h; obtain ⟨rfl, rfl, rfl, rfl⟩ : _ ∧ _ ∧ _ ∧ _ := by simpa using h
        clear h hl
        go_wp2
        exact bodyPost_ret (v := .tuple #[.agg #[.string ⟨#[]⟩, .string ⟨#[]⟩, .bool false], .int .i64 7]) (by simp [results, Try.results31, go_sem]) rfl ⟨rfl, by first | exact (Below.refl _ _).alloc (Nat.le_refl _) _ | exact ((Below.refl _ _).alloc (Nat.le_refl _) _).setCell (by simp) _⟩
      | true =>
        have HY := Aside0.mk hl
        rcases opers_logical.yes hl with q1 | ⟨q1, q2⟩
        all_goals
          clear hl
          go_wp2
          go_round
          case rel => exact .inr (.inl ⟨rfl, ⟨trivial⟩⟩)
          case measure => decide
    · cases hl : opers_logical.lg a1 with
      | false =>
        obtain ⟨q1, q2⟩ := opers_logical.no hl
        have h := H.out; rw [HL.out, hl] at h; obtain ⟨rfl, rfl, rfl, rfl⟩ : _ ∧ _ ∧ _ ∧ _ := by simpa using h
        clear h hl
        go_wp2
        exact bodyPost_ret (v := .tuple #[.agg #[.string ⟨#[]⟩, .string ⟨#[]⟩, .bool false], .int .i64 7]) (by simp [results, Try.results31, go_sem]) rfl ⟨rfl, by first | exact (Below.refl _ _).alloc (Nat.le_refl _) _ | exact ((Below.refl _ _).alloc (Nat.le_refl _) _).setCell (by simp) _⟩
      | true =>
        have HY := Aside0.mk hl
        rcases opers_logical.yes hl with q1 | ⟨q1, q2⟩
        all_goals
          clear hl
          go_wp2
          go_round
          case rel => exact .inr (.inr ⟨rfl, ⟨HL.out, trivial⟩⟩)
          case measure => decide
    · have h := H.out; rw [HL.out.1, HL.out.2] at h; obtain ⟨rfl, rfl, rfl, rfl⟩ : _ ∧ _ ∧ _ ∧ _ := by simpa using h
      clear h
      go_wp2
      exact bodyPost_ret (v := .tuple #[.agg #[.string ⟨#[98, 111, 111, 108]⟩, .string ⟨#[98, 111, 111, 108]⟩, .bool false], .int .i64 0]) (by simp [results, Try.results31, go_sem]) rfl ⟨rfl, by first | exact (Below.refl _ _).alloc (Nat.le_refl _) _ | exact ((Below.refl _ _).alloc (Nat.le_refl _) _).setCell (by simp) _⟩

-- NOT PRINTED: function 33 (opers_oper_told)

end Go.Proofs.Ytnefifgfpljlkaa.PAll
