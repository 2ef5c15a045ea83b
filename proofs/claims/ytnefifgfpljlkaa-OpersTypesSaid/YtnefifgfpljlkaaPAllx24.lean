-- WRITTEN BY hand.py of this session, over the kit's print: a text of this seat
import Derived.Test.YtnefifgfpljlkaaPAllm0
namespace Go.Proofs.Ytnefifgfpljlkaa.PAll
open Go.RowKit Go.Proofs.YtnefifgfpljlkaaW.PrintWords Go.Proofs.YtnefifgfpljlkaaW.PrintLast Go.Proofs.YtnefifgfpljlkaaW.PrintMore
attribute [local go_sem] max2_int min2_int max_two min_two max_three min_three max_four min_four   -- for this text's walks alone
set_option linter.unusedVariables false
set_option linter.unusedSimpArgs false

/-! ### opers_Un: function 13 -/
def opers_Un.f (a0 : ByteArray) (a1 : ByteArray) : Option (ByteArray × ByteArray × Bool × Int) :=
  if a0.toList = ([45] : List UInt8) then
    (if a1.toList = ([105, 110, 116] : List UInt8) then some (a1, a1, false, 0) else if a1.toList = ([114, 101, 97, 108] : List UInt8) then some (a1, a1, false, 0) else if a1.toList = ([63] : List UInt8) then some (⟨#[105, 110, 116]⟩, ⟨#[105, 110, 116]⟩, false, 0) else some (⟨#[]⟩, ⟨#[]⟩, false, 7))
  else if a0.toList = ([33] : List UInt8) then
    (if a1.toList = ([98, 111, 111, 108] : List UInt8) then some (a1, a1, false, 0) else if a1.toList = ([63] : List UInt8) then some (⟨#[98, 111, 111, 108]⟩, ⟨#[98, 111, 111, 108]⟩, false, 0) else some (⟨#[]⟩, ⟨#[]⟩, false, 7))
  else some (⟨#[]⟩, ⟨#[]⟩, false, 2)
set_option maxHeartbeats 4000000 in
set_option maxRecDepth 100000 in
theorem opers_Un.calls (a0 : ByteArray) (a1 : ByteArray) (r1 : ByteArray) (r2 : ByteArray) (r3 : Bool) (r4 : Int) (w : World) (h : opers_Un.f a0 a1 = some (r1, r2, r3, r4)) :
    Calls Try.prog 13 #[.string a0, .string a1] w fun e w' => e = .returned (.tuple #[.agg #[.string r1, .string r2, .bool r3], .int .i64 r4]) ∧ Below w.heap.size w w' := by
  unfold opers_Un.f at h
  have hu := Try.underlying33
  have l_int : (⟨#[105, 110, 116]⟩ : ByteArray).toList = [105, 110, 116] := Go.Proofs.YtnefifgfpljlkaaOpers.lit _
  have l_bool : (⟨#[98, 111, 111, 108]⟩ : ByteArray).toList = [98, 111, 111, 108] := Go.Proofs.YtnefifgfpljlkaaOpers.lit _
  by_cases o1 : a0.toList = [45]
  · rw [if_pos o1] at h
    have p1 : (a0.toList == ([45] : List UInt8)) = true := by simpa using o1
    have p2 : (a0.toList == ([33] : List UInt8)) = false := by rw [o1]; rfl
    clear o1
    by_cases e0 : a1.toList = [105, 110, 116]
    · rw [if_pos e0] at h
      have qi : (a1.toList == ([105, 110, 116] : List UInt8)) = true := by rw [e0]; rfl
      have qr : (a1.toList == ([114, 101, 97, 108] : List UInt8)) = false := by rw [e0]; rfl
      have qb : (a1.toList == ([98, 111, 111, 108] : List UInt8)) = false := by rw [e0]; rfl
      have qd : (a1.toList == ([63] : List UInt8)) = false := by rw [e0]; rfl
      clear e0
      simp only [Option.some.injEq, Prod.mk.injEq] at h
      obtain ⟨rfl, rfl, rfl, rfl⟩ := h
      go_enter Try.func13, Try.ntmps13
      go_wp2
      exact bodyPost_ret (v := .tuple #[.agg #[.string a1, .string a1, .bool false], .int .i64 0]) (by simp [results, Try.results13, go_sem]) rfl ⟨rfl, (Below.refl _ _).alloc (Nat.le_refl _) _⟩
    by_cases e1 : a1.toList = [114, 101, 97, 108]
    · rw [if_neg e0, if_pos e1] at h
      have qi : (a1.toList == ([105, 110, 116] : List UInt8)) = false := by rw [e1]; rfl
      have qr : (a1.toList == ([114, 101, 97, 108] : List UInt8)) = true := by rw [e1]; rfl
      have qb : (a1.toList == ([98, 111, 111, 108] : List UInt8)) = false := by rw [e1]; rfl
      have qd : (a1.toList == ([63] : List UInt8)) = false := by rw [e1]; rfl
      clear e0 e1
      simp only [Option.some.injEq, Prod.mk.injEq] at h
      obtain ⟨rfl, rfl, rfl, rfl⟩ := h
      go_enter Try.func13, Try.ntmps13
      go_wp2
      exact bodyPost_ret (v := .tuple #[.agg #[.string a1, .string a1, .bool false], .int .i64 0]) (by simp [results, Try.results13, go_sem]) rfl ⟨rfl, (Below.refl _ _).alloc (Nat.le_refl _) _⟩
    by_cases e2 : a1.toList = [63]
    · rw [if_neg e0, if_neg e1, if_pos e2] at h
      have qi : (a1.toList == ([105, 110, 116] : List UInt8)) = false := by rw [e2]; rfl
      have qr : (a1.toList == ([114, 101, 97, 108] : List UInt8)) = false := by rw [e2]; rfl
      have qb : (a1.toList == ([98, 111, 111, 108] : List UInt8)) = false := by rw [e2]; rfl
      have qd : (a1.toList == ([63] : List UInt8)) = true := by rw [e2]; rfl
      clear e0 e1 e2
      simp only [Option.some.injEq, Prod.mk.injEq] at h
      obtain ⟨rfl, rfl, rfl, rfl⟩ := h
      go_enter Try.func13, Try.ntmps13
      go_wp2
      exact bodyPost_ret (v := .tuple #[.agg #[.string ⟨#[105, 110, 116]⟩, .string ⟨#[105, 110, 116]⟩, .bool false], .int .i64 0]) (by simp [results, Try.results13, go_sem]) rfl ⟨rfl, (Below.refl _ _).alloc (Nat.le_refl _) _⟩
    rw [if_neg e0, if_neg e1, if_neg e2] at h
    have z0 : (a1.toList == ([105, 110, 116] : List UInt8)) = false := by simpa using e0
    have z1 : (a1.toList == ([114, 101, 97, 108] : List UInt8)) = false := by simpa using e1
    have z2 : (a1.toList == ([63] : List UInt8)) = false := by simpa using e2
    clear e0 e1 e2
    simp only [Option.some.injEq, Prod.mk.injEq] at h
    obtain ⟨rfl, rfl, rfl, rfl⟩ := h
    go_enter Try.func13, Try.ntmps13
    go_wp2
    exact bodyPost_ret (v := .tuple #[.agg #[.string ⟨#[]⟩, .string ⟨#[]⟩, .bool false], .int .i64 7]) (by simp [results, Try.results13, go_sem]) rfl ⟨rfl, (Below.refl _ _).alloc (Nat.le_refl _) _⟩
  rw [if_neg o1] at h
  have p1 : (a0.toList == ([45] : List UInt8)) = false := by simpa using o1
  by_cases o2 : a0.toList = [33]
  · rw [if_pos o2] at h
    have p2 : (a0.toList == ([33] : List UInt8)) = true := by simpa using o2
    clear o1 o2
    by_cases e0 : a1.toList = [98, 111, 111, 108]
    · rw [if_pos e0] at h
      have qi : (a1.toList == ([105, 110, 116] : List UInt8)) = false := by rw [e0]; rfl
      have qr : (a1.toList == ([114, 101, 97, 108] : List UInt8)) = false := by rw [e0]; rfl
      have qb : (a1.toList == ([98, 111, 111, 108] : List UInt8)) = true := by rw [e0]; rfl
      have qd : (a1.toList == ([63] : List UInt8)) = false := by rw [e0]; rfl
      clear e0
      simp only [Option.some.injEq, Prod.mk.injEq] at h
      obtain ⟨rfl, rfl, rfl, rfl⟩ := h
      go_enter Try.func13, Try.ntmps13
      go_wp2
      exact bodyPost_ret (v := .tuple #[.agg #[.string a1, .string a1, .bool false], .int .i64 0]) (by simp [results, Try.results13, go_sem]) rfl ⟨rfl, (Below.refl _ _).alloc (Nat.le_refl _) _⟩
    by_cases e1 : a1.toList = [63]
    · rw [if_neg e0, if_pos e1] at h
      have qi : (a1.toList == ([105, 110, 116] : List UInt8)) = false := by rw [e1]; rfl
      have qr : (a1.toList == ([114, 101, 97, 108] : List UInt8)) = false := by rw [e1]; rfl
      have qb : (a1.toList == ([98, 111, 111, 108] : List UInt8)) = false := by rw [e1]; rfl
      have qd : (a1.toList == ([63] : List UInt8)) = true := by rw [e1]; rfl
      clear e0 e1
      simp only [Option.some.injEq, Prod.mk.injEq] at h
      obtain ⟨rfl, rfl, rfl, rfl⟩ := h
      go_enter Try.func13, Try.ntmps13
      go_wp2
      exact bodyPost_ret (v := .tuple #[.agg #[.string ⟨#[98, 111, 111, 108]⟩, .string ⟨#[98, 111, 111, 108]⟩, .bool false], .int .i64 0]) (by simp [results, Try.results13, go_sem]) rfl ⟨rfl, (Below.refl _ _).alloc (Nat.le_refl _) _⟩
    rw [if_neg e0, if_neg e1] at h
    have z0 : (a1.toList == ([98, 111, 111, 108] : List UInt8)) = false := by simpa using e0
    have z1 : (a1.toList == ([63] : List UInt8)) = false := by simpa using e1
    clear e0 e1
    simp only [Option.some.injEq, Prod.mk.injEq] at h
    obtain ⟨rfl, rfl, rfl, rfl⟩ := h
    go_enter Try.func13, Try.ntmps13
    go_wp2
    exact bodyPost_ret (v := .tuple #[.agg #[.string ⟨#[]⟩, .string ⟨#[]⟩, .bool false], .int .i64 7]) (by simp [results, Try.results13, go_sem]) rfl ⟨rfl, (Below.refl _ _).alloc (Nat.le_refl _) _⟩
  rw [if_neg o2] at h
  have p2 : (a0.toList == ([33] : List UInt8)) = false := by simpa using o2
  clear o1 o2
  simp only [Option.some.injEq, Prod.mk.injEq] at h
  obtain ⟨rfl, rfl, rfl, rfl⟩ := h
  go_enter Try.func13, Try.ntmps13
  go_wp2
  exact bodyPost_ret (v := .tuple #[.agg #[.string ⟨#[]⟩, .string ⟨#[]⟩, .bool false], .int .i64 2]) (by simp [results, Try.results13, go_sem]) rfl ⟨rfl, (Below.refl _ _).alloc (Nat.le_refl _) _⟩

end Go.Proofs.Ytnefifgfpljlkaa.PAll
