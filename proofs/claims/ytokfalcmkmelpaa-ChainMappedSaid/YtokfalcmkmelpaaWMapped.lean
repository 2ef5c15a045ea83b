/- chaperonlaw10.mapped: a chain whose classes are exchanged. -/
import Derived.Test.YtokfalcmkmelpaaPCh
import Derived.Test.YtokfalcmkmelpaaPChM
import Derived.Test.YtokfalcmkmelpaaRG2
import Derived.Test.YtokfalcmkmelpaaPAllx24
namespace Go.Proofs.Ytokfalcmkmelpaa.Pure
open Go.RowKit Go.Proofs.Ytokfalcmkmelpaa.PAll Go.Proofs.YtokfalcmkmelpaaW.PrintWords Go.Proofs.YtokfalcmkmelpaaW.PrintLast Go.Proofs.YtokfalcmkmelpaaHChain Go.Proofs.YtokfalcmkmelpaaRF
set_option linter.unusedSimpArgs false
set_option linter.unusedVariables false
/-- The letter by number. -/
def abcd : List ByteArray := [⟨#[65]⟩, ⟨#[66]⟩, ⟨#[67]⟩, ⟨#[68]⟩]
/-- Which class a class is exchanged for. -/
def mcls (t : Nat → Int) (c : ByteArray) : ByteArray :=
  if c.size = 1 ∧ 65 ≤ bt c 0 ∧ bt c 0 ≤ 68 then abcd.getD ((chaperonkit_Pick.f (t ((bt c 0).toNat - 65)) 4).getD 0).toNat ByteArray.empty else c
def mp (t : Nat → Int) (x : Lr) : Lr := ⟨x.f0, mcls t x.f1, x.f2⟩
theorem mapped_info : (Try.prog.info? 37).map (fun i => (i.zero, i.size, i.bytes)) = some (some (.agg #[(.bool false), (.string ⟨#[]⟩), (.int .i64 0)]), 3, 32) := by kernel_rfl
theorem mapped_step (t : Nat → Int) (l : List Lr) (i : Nat) (h : i < l.length) : (l.take (i + 1)).map (mp t) = (l.take i).map (mp t) ++ [mp t l[i]] := by
  rw [List.take_add_one, List.getElem?_eq_getElem h, List.map_append]; rfl
theorem strs_at (n : Nat) (h : n < 4) : (#[Value.string ⟨#[65]⟩, .string ⟨#[66]⟩, .string ⟨#[67]⟩, .string ⟨#[68]⟩] : Array Value)[n]? = some (.string (abcd.getD n ByteArray.empty)) := by
  rcases (by omega : n = 0 ∨ n = 1 ∨ n = 2 ∨ n = 3) with rfl | rfl | rfl | rfl <;> rfl
set_option maxHeartbeats 4000000 in
set_option maxRecDepth 100000 in
theorem mapped_calls (A0 : Option Addr) (c0 : Nat) (l : List Lr) (t : Nat → Int) (w : World) (hr0 : Kd.C k37 w A0 l.length l) (hc0 : l.length ≤ c0) (hl : l.length < 4294967296) :
    Calls Try.prog 36 #[.slice A0 l.length c0, .agg #[.int .i64 (t 0), .int .i64 (t 1), .int .i64 (t 2), .int .i64 (t 3)]] w fun e w' => ∃ v0_ : Value, e = .returned (v0_) ∧ Kd.R k37 37 w' w.heap.size (fun _ => True) v0_ (l.map (mp t)) ∧ Below w.heap.size w w' := by
  have HR0 := Aside0.mk hr0
  have hu := Try.underlying37
  clear hr0
  go_enter Try.func36, Try.ntmps36
  go_wp2_with fail
  go_loopw [5, 6, 7] (fun v5 v6 _ wr => ∃ i : Nat, i ≤ l.length ∧ v6 = .int .i64 i ∧ Aside0 (Kd.R k37 37 wr w.heap.size (fun b => b ≠ w.heap.size) v5 ((l.take i).map (mp t)) ∧ Below w.heap.size w wr ∧ wr.heap[w.heap.size]? = some (.cells #[.int .i64 (t 0), .int .i64 (t 1), .int .i64 (t 2), .int .i64 (t 3)] 51 (0, 0))))
    (fun _ v6 _ _ => l.length - (intOf v6).toNat)
  case atStart => exact ⟨0, Nat.zero_le _, rfl, ⟨Kd.R_nil _ _ _ _ _, (Below.refl _ _).alloc (Nat.le_refl _) _, at_new _ _ rfl⟩⟩
  case round =>
    obtain ⟨i, hi, rfl, ⟨ho, hb, hbox⟩⟩ := hrel
    have HO := Aside0.mk ho
    have HB := Aside0.mk hb
    have HBX := Aside0.mk hbox
    have HSZ := Aside0.mk (lt_of_at hbox)
    clear ho hb hbox
    by_cases hlt : i < l.length
    · obtain ⟨ad, hA, x0, x1, x2⟩ := at_T37 (Kd.C_below HR0.out HB.out) (i : Int) (by omega) (by omega)
      rw [rdT l i hlt, Int.toNat_natCast] at x0 x1 x2
      obtain ⟨x, hx⟩ : ∃ x, x = l[i] := ⟨_, rfl⟩
      rw [← hx] at x0 x1 x2
      have HX := Aside0.mk hx
      clear hx
      subst hA
      by_cases h1 : x.f1.size = 1
      · have hs0 : 0 < x.f1.size := by omega
        have hbt : bt x.f1 0 = ((x.f1[0]'hs0).toNat : Int) := by unfold bt; simp [hs0]
        by_cases hbb : 65 ≤ (x.f1[0]'hs0).toNat ∧ (x.f1[0]'hs0).toNat ≤ 68
        · have h4 : (x.f1[0]'hs0).toNat = 65 ∨ (x.f1[0]'hs0).toNat = 66 ∨ (x.f1[0]'hs0).toNat = 67 ∨ (x.f1[0]'hs0).toNat = 68 := by omega
          clear hbb
          rcases h4 with h4 | h4 | h4 | h4
          · obtain ⟨y, hy, hy0, hy1⟩ := pick8 (t 0) 4 (by omega) (by omega)
            have HY := Aside0.mk hy
            have hmx : mp t x = ⟨x.f0, abcd.getD y.toNat ByteArray.empty, x.f2⟩ := by
              unfold mp mcls
              rw [if_pos ⟨h1, by rw [hbt, h4]; omega, by rw [hbt, h4]; omega⟩, hbt, h4, show ((((65 : Nat) : Int)).toNat - 65) = 0 from rfl, hy]
              rfl
            have HMX := Aside0.mk hmx
            have hbc := cell_at (at_alloc (at_alloc HBX.out (.cells #[.bool x.f0, .string x.f1, .int .i64 x.f2] 37)) (.cells #[.string ⟨#[65]⟩, .string ⟨#[66]⟩, .string ⟨#[67]⟩, .string ⟨#[68]⟩] 9)) 0
            clear hbt hy hmx
            go_wp2_with fail
            refine (chaperonkit_Pick.calls _ 4 y _ HY.out).mono ?_
            rintro e w3 ⟨rfl, hb3⟩
            have hB3 := hb3.below
            have hg3 := (hB3.block wr.heap.size (by simp; omega)).trans (at_alloc (at_new wr (.cells #[.bool x.f0, .string x.f1, .int .i64 x.f2] 37) rfl) (.cells #[.string ⟨#[65]⟩, .string ⟨#[66]⟩, .string ⟨#[67]⟩, .string ⟨#[68]⟩] 9))
            have hd3 := (hB3.block (wr.heap.size + 1) (by simp)).trans (at_new (wr.alloc (.cells #[.bool x.f0, .string x.f1, .int .i64 x.f2] 37)) (.cells #[.string ⟨#[65]⟩, .string ⟨#[66]⟩, .string ⟨#[67]⟩, .string ⟨#[68]⟩] 9) (by simp))
            have hx3 := (hB3.block w.heap.size (by have h1 := HSZ.out; simp; omega)).trans (at_alloc (at_alloc HBX.out (.cells #[.bool x.f0, .string x.f1, .int .i64 x.f2] 37)) (.cells #[.string ⟨#[65]⟩, .string ⟨#[66]⟩, .string ⟨#[67]⟩, .string ⟨#[68]⟩] 9))
            have hsz3 : wr.heap.size + 2 ≤ w3.heap.size := by have := hB3.size; simpa using this
            have HO3 := Aside0.mk (Kd.R_below (Kd.R_alloc (Kd.R_alloc (Kd.R_bound HO.out) (.cells #[.bool x.f0, .string x.f1, .int .i64 x.f2] 37)) (.cells #[.string ⟨#[65]⟩, .string ⟨#[66]⟩, .string ⟨#[67]⟩, .string ⟨#[68]⟩] 9)) hB3)
            have HB3 := Aside0.mk (((HB.out.alloc (Nat.le_of_lt HSZ.out) (.cells #[.bool x.f0, .string x.f1, .int .i64 x.f2] 37)).alloc (by have h1 := HSZ.out; simp; omega) (.cells #[.string ⟨#[65]⟩, .string ⟨#[66]⟩, .string ⟨#[67]⟩, .string ⟨#[68]⟩] 9)).trans (hB3.mono (by have h1 := HSZ.out; simp; omega)))
            obtain ⟨yn, rfl⟩ : ∃ n : Nat, y = n := ⟨y.toNat, by omega⟩
            obtain ⟨c', hc'⟩ : ∃ c', c' = abcd.getD yn ByteArray.empty := ⟨_, rfl⟩
            have hdc := cell_at hd3 yn
            rw [strs_at yn (by omega), ← hc'] at hdc
            replace HMX := Aside0.mk (show mp t x = ⟨x.f0, c', x.f2⟩ by rw [HMX.out, Int.toNat_natCast, hc'])
            clear hc'
            have hg0 := cell_at hg3 0
            have hg1 := cell_at hg3 1
            have hg2 := cell_at hg3 2
            simp only [List.getElem?_toArray, List.getElem?_cons_zero, List.getElem?_cons_succ] at hg0 hg1 hg2
            have HG3 := Aside0.mk hg3
            have hfr := free_at hg3 1
            have HX3 := Aside0.mk hx3
            clear hb3 hB3 hg3 hd3 hx3
            have HPM := Aside0.mk (show Kd.M k37 (w3.setCell ⟨wr.heap.size, 1, none⟩ (.string c')) w.heap.size (fun _ => False) (mp t x) [.bool x.f0, .string c', .int .i64 x.f2] by rw [HMX.out]; exact k37_mkM _ _ _ ⟨x.f0, c', x.f2⟩)
            have HS3 := Aside0.mk hsz3
            have HW3 := Aside0.mk (show (w3.setCell ⟨wr.heap.size, 1, none⟩ (.string c')).heap.size = w3.heap.size by simp)
            have HOW := Aside0.mk (show Kd.R k37 37 (w3.setCell ⟨wr.heap.size, 1, none⟩ (.string c')) w.heap.size (fun b => b ≠ w.heap.size) _ ((l.take i).map (mp t)) from Kd.R_mono (Kd.R_far HO3.out (fun k hk => Nat.ne_of_lt hk.2.2.1) _) (fun k hk => hk.1))
            have HBW := Aside0.mk (show Below w.heap.size w (w3.setCell ⟨wr.heap.size, 1, none⟩ (.string c')) from below_set HB3.out (by have h1 := HSZ.out; simp; omega))
            go_wp2_with ((with_reducible refine gate_builtin (b := .append) (xs := #[.tmp 45, .tmp 47]) rfl ?_); at_builtin; (refine Kd.R_append k37 (w0 := w) (W := (w3.setCell ⟨wr.heap.size, 1, none⟩ (.string c'))) w.heap.size rfl (.tmp 45) (.tmp 47) 22 37 (.agg #[(.bool false), (.string ⟨#[]⟩), (.int .i64 0)]) 32 rfl Try.underlying22 mapped_info rfl (by decide) (by omega) _ ((l.take i).map (mp t)) (mp t x) [.bool x.f0, .string c', .int .i64 x.f2] (fun b => b ≠ w.heap.size) (fun _ => False) rfl (by simp [Act.eval]) ?aP (fun _ hk => hk.elim) ?aF ?aO ?aB ?aS ?aL ?_); (case aP => exact HPM.out); (case aB => exact HBW.out); (case aF => intro j hj hje; have h1 := HSZ.out; have h2 := HW3.out; have h3 := HS3.out; omega); (case aO => exact HOW.out); (case aS => have h1 := HSZ.out; have h2 := HW3.out; have h3 := HS3.out; omega); (case aL => simp; omega); intro v1 w4 ho4 hb4 hg4 hat4; have HO4 := Aside0.mk ho4; have HB4 := Aside0.mk hb4; have HBX4 := Aside0.mk (show w4.heap[w.heap.size]? = some (.cells #[.int .i64 (t 0), .int .i64 (t 1), .int .i64 (t 2), .int .i64 (t 3)] 51 (0, 0)) from (hg4.block _ (by have h1 := HSZ.out; have h2 := HW3.out; have h3 := HS3.out; omega) (fun e => HO.out.1 _ e.symm rfl)).trans (at_set HX3.out (by have h1 := HSZ.out; simp; omega) _)); clear ho4 hb4 hg4 hat4)
            go_roundw
            case rel => exact ⟨i + 1, by omega, by go_num, ⟨by rw [mapped_step t l i hlt, ← HX.out]; exact HO4.out, HB4.out, HBX4.out⟩⟩
            case measure => simp [intOf]; omega
          · obtain ⟨y, hy, hy0, hy1⟩ := pick8 (t 1) 4 (by omega) (by omega)
            have HY := Aside0.mk hy
            have hmx : mp t x = ⟨x.f0, abcd.getD y.toNat ByteArray.empty, x.f2⟩ := by
              unfold mp mcls
              rw [if_pos ⟨h1, by rw [hbt, h4]; omega, by rw [hbt, h4]; omega⟩, hbt, h4, show ((((66 : Nat) : Int)).toNat - 65) = 1 from rfl, hy]
              rfl
            have HMX := Aside0.mk hmx
            have hbc := cell_at (at_alloc (at_alloc HBX.out (.cells #[.bool x.f0, .string x.f1, .int .i64 x.f2] 37)) (.cells #[.string ⟨#[65]⟩, .string ⟨#[66]⟩, .string ⟨#[67]⟩, .string ⟨#[68]⟩] 9)) 1
            clear hbt hy hmx
            go_wp2_with fail
            refine (chaperonkit_Pick.calls _ 4 y _ HY.out).mono ?_
            rintro e w3 ⟨rfl, hb3⟩
            have hB3 := hb3.below
            have hg3 := (hB3.block wr.heap.size (by simp; omega)).trans (at_alloc (at_new wr (.cells #[.bool x.f0, .string x.f1, .int .i64 x.f2] 37) rfl) (.cells #[.string ⟨#[65]⟩, .string ⟨#[66]⟩, .string ⟨#[67]⟩, .string ⟨#[68]⟩] 9))
            have hd3 := (hB3.block (wr.heap.size + 1) (by simp)).trans (at_new (wr.alloc (.cells #[.bool x.f0, .string x.f1, .int .i64 x.f2] 37)) (.cells #[.string ⟨#[65]⟩, .string ⟨#[66]⟩, .string ⟨#[67]⟩, .string ⟨#[68]⟩] 9) (by simp))
            have hx3 := (hB3.block w.heap.size (by have h1 := HSZ.out; simp; omega)).trans (at_alloc (at_alloc HBX.out (.cells #[.bool x.f0, .string x.f1, .int .i64 x.f2] 37)) (.cells #[.string ⟨#[65]⟩, .string ⟨#[66]⟩, .string ⟨#[67]⟩, .string ⟨#[68]⟩] 9))
            have hsz3 : wr.heap.size + 2 ≤ w3.heap.size := by have := hB3.size; simpa using this
            have HO3 := Aside0.mk (Kd.R_below (Kd.R_alloc (Kd.R_alloc (Kd.R_bound HO.out) (.cells #[.bool x.f0, .string x.f1, .int .i64 x.f2] 37)) (.cells #[.string ⟨#[65]⟩, .string ⟨#[66]⟩, .string ⟨#[67]⟩, .string ⟨#[68]⟩] 9)) hB3)
            have HB3 := Aside0.mk (((HB.out.alloc (Nat.le_of_lt HSZ.out) (.cells #[.bool x.f0, .string x.f1, .int .i64 x.f2] 37)).alloc (by have h1 := HSZ.out; simp; omega) (.cells #[.string ⟨#[65]⟩, .string ⟨#[66]⟩, .string ⟨#[67]⟩, .string ⟨#[68]⟩] 9)).trans (hB3.mono (by have h1 := HSZ.out; simp; omega)))
            obtain ⟨yn, rfl⟩ : ∃ n : Nat, y = n := ⟨y.toNat, by omega⟩
            obtain ⟨c', hc'⟩ : ∃ c', c' = abcd.getD yn ByteArray.empty := ⟨_, rfl⟩
            have hdc := cell_at hd3 yn
            rw [strs_at yn (by omega), ← hc'] at hdc
            replace HMX := Aside0.mk (show mp t x = ⟨x.f0, c', x.f2⟩ by rw [HMX.out, Int.toNat_natCast, hc'])
            clear hc'
            have hg0 := cell_at hg3 0
            have hg1 := cell_at hg3 1
            have hg2 := cell_at hg3 2
            simp only [List.getElem?_toArray, List.getElem?_cons_zero, List.getElem?_cons_succ] at hg0 hg1 hg2
            have HG3 := Aside0.mk hg3
            have hfr := free_at hg3 1
            have HX3 := Aside0.mk hx3
            clear hb3 hB3 hg3 hd3 hx3
            have HPM := Aside0.mk (show Kd.M k37 (w3.setCell ⟨wr.heap.size, 1, none⟩ (.string c')) w.heap.size (fun _ => False) (mp t x) [.bool x.f0, .string c', .int .i64 x.f2] by rw [HMX.out]; exact k37_mkM _ _ _ ⟨x.f0, c', x.f2⟩)
            have HS3 := Aside0.mk hsz3
            have HW3 := Aside0.mk (show (w3.setCell ⟨wr.heap.size, 1, none⟩ (.string c')).heap.size = w3.heap.size by simp)
            have HOW := Aside0.mk (show Kd.R k37 37 (w3.setCell ⟨wr.heap.size, 1, none⟩ (.string c')) w.heap.size (fun b => b ≠ w.heap.size) _ ((l.take i).map (mp t)) from Kd.R_mono (Kd.R_far HO3.out (fun k hk => Nat.ne_of_lt hk.2.2.1) _) (fun k hk => hk.1))
            have HBW := Aside0.mk (show Below w.heap.size w (w3.setCell ⟨wr.heap.size, 1, none⟩ (.string c')) from below_set HB3.out (by have h1 := HSZ.out; simp; omega))
            go_wp2_with ((with_reducible refine gate_builtin (b := .append) (xs := #[.tmp 45, .tmp 47]) rfl ?_); at_builtin; (refine Kd.R_append k37 (w0 := w) (W := (w3.setCell ⟨wr.heap.size, 1, none⟩ (.string c'))) w.heap.size rfl (.tmp 45) (.tmp 47) 22 37 (.agg #[(.bool false), (.string ⟨#[]⟩), (.int .i64 0)]) 32 rfl Try.underlying22 mapped_info rfl (by decide) (by omega) _ ((l.take i).map (mp t)) (mp t x) [.bool x.f0, .string c', .int .i64 x.f2] (fun b => b ≠ w.heap.size) (fun _ => False) rfl (by simp [Act.eval]) ?aP (fun _ hk => hk.elim) ?aF ?aO ?aB ?aS ?aL ?_); (case aP => exact HPM.out); (case aB => exact HBW.out); (case aF => intro j hj hje; have h1 := HSZ.out; have h2 := HW3.out; have h3 := HS3.out; omega); (case aO => exact HOW.out); (case aS => have h1 := HSZ.out; have h2 := HW3.out; have h3 := HS3.out; omega); (case aL => simp; omega); intro v1 w4 ho4 hb4 hg4 hat4; have HO4 := Aside0.mk ho4; have HB4 := Aside0.mk hb4; have HBX4 := Aside0.mk (show w4.heap[w.heap.size]? = some (.cells #[.int .i64 (t 0), .int .i64 (t 1), .int .i64 (t 2), .int .i64 (t 3)] 51 (0, 0)) from (hg4.block _ (by have h1 := HSZ.out; have h2 := HW3.out; have h3 := HS3.out; omega) (fun e => HO.out.1 _ e.symm rfl)).trans (at_set HX3.out (by have h1 := HSZ.out; simp; omega) _)); clear ho4 hb4 hg4 hat4)
            go_roundw
            case rel => exact ⟨i + 1, by omega, by go_num, ⟨by rw [mapped_step t l i hlt, ← HX.out]; exact HO4.out, HB4.out, HBX4.out⟩⟩
            case measure => simp [intOf]; omega
          · obtain ⟨y, hy, hy0, hy1⟩ := pick8 (t 2) 4 (by omega) (by omega)
            have HY := Aside0.mk hy
            have hmx : mp t x = ⟨x.f0, abcd.getD y.toNat ByteArray.empty, x.f2⟩ := by
              unfold mp mcls
              rw [if_pos ⟨h1, by rw [hbt, h4]; omega, by rw [hbt, h4]; omega⟩, hbt, h4, show ((((67 : Nat) : Int)).toNat - 65) = 2 from rfl, hy]
              rfl
            have HMX := Aside0.mk hmx
            have hbc := cell_at (at_alloc (at_alloc HBX.out (.cells #[.bool x.f0, .string x.f1, .int .i64 x.f2] 37)) (.cells #[.string ⟨#[65]⟩, .string ⟨#[66]⟩, .string ⟨#[67]⟩, .string ⟨#[68]⟩] 9)) 2
            clear hbt hy hmx
            go_wp2_with fail
            refine (chaperonkit_Pick.calls _ 4 y _ HY.out).mono ?_
            rintro e w3 ⟨rfl, hb3⟩
            have hB3 := hb3.below
            have hg3 := (hB3.block wr.heap.size (by simp; omega)).trans (at_alloc (at_new wr (.cells #[.bool x.f0, .string x.f1, .int .i64 x.f2] 37) rfl) (.cells #[.string ⟨#[65]⟩, .string ⟨#[66]⟩, .string ⟨#[67]⟩, .string ⟨#[68]⟩] 9))
            have hd3 := (hB3.block (wr.heap.size + 1) (by simp)).trans (at_new (wr.alloc (.cells #[.bool x.f0, .string x.f1, .int .i64 x.f2] 37)) (.cells #[.string ⟨#[65]⟩, .string ⟨#[66]⟩, .string ⟨#[67]⟩, .string ⟨#[68]⟩] 9) (by simp))
            have hx3 := (hB3.block w.heap.size (by have h1 := HSZ.out; simp; omega)).trans (at_alloc (at_alloc HBX.out (.cells #[.bool x.f0, .string x.f1, .int .i64 x.f2] 37)) (.cells #[.string ⟨#[65]⟩, .string ⟨#[66]⟩, .string ⟨#[67]⟩, .string ⟨#[68]⟩] 9))
            have hsz3 : wr.heap.size + 2 ≤ w3.heap.size := by have := hB3.size; simpa using this
            have HO3 := Aside0.mk (Kd.R_below (Kd.R_alloc (Kd.R_alloc (Kd.R_bound HO.out) (.cells #[.bool x.f0, .string x.f1, .int .i64 x.f2] 37)) (.cells #[.string ⟨#[65]⟩, .string ⟨#[66]⟩, .string ⟨#[67]⟩, .string ⟨#[68]⟩] 9)) hB3)
            have HB3 := Aside0.mk (((HB.out.alloc (Nat.le_of_lt HSZ.out) (.cells #[.bool x.f0, .string x.f1, .int .i64 x.f2] 37)).alloc (by have h1 := HSZ.out; simp; omega) (.cells #[.string ⟨#[65]⟩, .string ⟨#[66]⟩, .string ⟨#[67]⟩, .string ⟨#[68]⟩] 9)).trans (hB3.mono (by have h1 := HSZ.out; simp; omega)))
            obtain ⟨yn, rfl⟩ : ∃ n : Nat, y = n := ⟨y.toNat, by omega⟩
            obtain ⟨c', hc'⟩ : ∃ c', c' = abcd.getD yn ByteArray.empty := ⟨_, rfl⟩
            have hdc := cell_at hd3 yn
            rw [strs_at yn (by omega), ← hc'] at hdc
            replace HMX := Aside0.mk (show mp t x = ⟨x.f0, c', x.f2⟩ by rw [HMX.out, Int.toNat_natCast, hc'])
            clear hc'
            have hg0 := cell_at hg3 0
            have hg1 := cell_at hg3 1
            have hg2 := cell_at hg3 2
            simp only [List.getElem?_toArray, List.getElem?_cons_zero, List.getElem?_cons_succ] at hg0 hg1 hg2
            have HG3 := Aside0.mk hg3
            have hfr := free_at hg3 1
            have HX3 := Aside0.mk hx3
            clear hb3 hB3 hg3 hd3 hx3
            have HPM := Aside0.mk (show Kd.M k37 (w3.setCell ⟨wr.heap.size, 1, none⟩ (.string c')) w.heap.size (fun _ => False) (mp t x) [.bool x.f0, .string c', .int .i64 x.f2] by rw [HMX.out]; exact k37_mkM _ _ _ ⟨x.f0, c', x.f2⟩)
            have HS3 := Aside0.mk hsz3
            have HW3 := Aside0.mk (show (w3.setCell ⟨wr.heap.size, 1, none⟩ (.string c')).heap.size = w3.heap.size by simp)
            have HOW := Aside0.mk (show Kd.R k37 37 (w3.setCell ⟨wr.heap.size, 1, none⟩ (.string c')) w.heap.size (fun b => b ≠ w.heap.size) _ ((l.take i).map (mp t)) from Kd.R_mono (Kd.R_far HO3.out (fun k hk => Nat.ne_of_lt hk.2.2.1) _) (fun k hk => hk.1))
            have HBW := Aside0.mk (show Below w.heap.size w (w3.setCell ⟨wr.heap.size, 1, none⟩ (.string c')) from below_set HB3.out (by have h1 := HSZ.out; simp; omega))
            go_wp2_with ((with_reducible refine gate_builtin (b := .append) (xs := #[.tmp 45, .tmp 47]) rfl ?_); at_builtin; (refine Kd.R_append k37 (w0 := w) (W := (w3.setCell ⟨wr.heap.size, 1, none⟩ (.string c'))) w.heap.size rfl (.tmp 45) (.tmp 47) 22 37 (.agg #[(.bool false), (.string ⟨#[]⟩), (.int .i64 0)]) 32 rfl Try.underlying22 mapped_info rfl (by decide) (by omega) _ ((l.take i).map (mp t)) (mp t x) [.bool x.f0, .string c', .int .i64 x.f2] (fun b => b ≠ w.heap.size) (fun _ => False) rfl (by simp [Act.eval]) ?aP (fun _ hk => hk.elim) ?aF ?aO ?aB ?aS ?aL ?_); (case aP => exact HPM.out); (case aB => exact HBW.out); (case aF => intro j hj hje; have h1 := HSZ.out; have h2 := HW3.out; have h3 := HS3.out; omega); (case aO => exact HOW.out); (case aS => have h1 := HSZ.out; have h2 := HW3.out; have h3 := HS3.out; omega); (case aL => simp; omega); intro v1 w4 ho4 hb4 hg4 hat4; have HO4 := Aside0.mk ho4; have HB4 := Aside0.mk hb4; have HBX4 := Aside0.mk (show w4.heap[w.heap.size]? = some (.cells #[.int .i64 (t 0), .int .i64 (t 1), .int .i64 (t 2), .int .i64 (t 3)] 51 (0, 0)) from (hg4.block _ (by have h1 := HSZ.out; have h2 := HW3.out; have h3 := HS3.out; omega) (fun e => HO.out.1 _ e.symm rfl)).trans (at_set HX3.out (by have h1 := HSZ.out; simp; omega) _)); clear ho4 hb4 hg4 hat4)
            go_roundw
            case rel => exact ⟨i + 1, by omega, by go_num, ⟨by rw [mapped_step t l i hlt, ← HX.out]; exact HO4.out, HB4.out, HBX4.out⟩⟩
            case measure => simp [intOf]; omega
          · obtain ⟨y, hy, hy0, hy1⟩ := pick8 (t 3) 4 (by omega) (by omega)
            have HY := Aside0.mk hy
            have hmx : mp t x = ⟨x.f0, abcd.getD y.toNat ByteArray.empty, x.f2⟩ := by
              unfold mp mcls
              rw [if_pos ⟨h1, by rw [hbt, h4]; omega, by rw [hbt, h4]; omega⟩, hbt, h4, show ((((68 : Nat) : Int)).toNat - 65) = 3 from rfl, hy]
              rfl
            have HMX := Aside0.mk hmx
            have hbc := cell_at (at_alloc (at_alloc HBX.out (.cells #[.bool x.f0, .string x.f1, .int .i64 x.f2] 37)) (.cells #[.string ⟨#[65]⟩, .string ⟨#[66]⟩, .string ⟨#[67]⟩, .string ⟨#[68]⟩] 9)) 3
            clear hbt hy hmx
            go_wp2_with fail
            refine (chaperonkit_Pick.calls _ 4 y _ HY.out).mono ?_
            rintro e w3 ⟨rfl, hb3⟩
            have hB3 := hb3.below
            have hg3 := (hB3.block wr.heap.size (by simp; omega)).trans (at_alloc (at_new wr (.cells #[.bool x.f0, .string x.f1, .int .i64 x.f2] 37) rfl) (.cells #[.string ⟨#[65]⟩, .string ⟨#[66]⟩, .string ⟨#[67]⟩, .string ⟨#[68]⟩] 9))
            have hd3 := (hB3.block (wr.heap.size + 1) (by simp)).trans (at_new (wr.alloc (.cells #[.bool x.f0, .string x.f1, .int .i64 x.f2] 37)) (.cells #[.string ⟨#[65]⟩, .string ⟨#[66]⟩, .string ⟨#[67]⟩, .string ⟨#[68]⟩] 9) (by simp))
            have hx3 := (hB3.block w.heap.size (by have h1 := HSZ.out; simp; omega)).trans (at_alloc (at_alloc HBX.out (.cells #[.bool x.f0, .string x.f1, .int .i64 x.f2] 37)) (.cells #[.string ⟨#[65]⟩, .string ⟨#[66]⟩, .string ⟨#[67]⟩, .string ⟨#[68]⟩] 9))
            have hsz3 : wr.heap.size + 2 ≤ w3.heap.size := by have := hB3.size; simpa using this
            have HO3 := Aside0.mk (Kd.R_below (Kd.R_alloc (Kd.R_alloc (Kd.R_bound HO.out) (.cells #[.bool x.f0, .string x.f1, .int .i64 x.f2] 37)) (.cells #[.string ⟨#[65]⟩, .string ⟨#[66]⟩, .string ⟨#[67]⟩, .string ⟨#[68]⟩] 9)) hB3)
            have HB3 := Aside0.mk (((HB.out.alloc (Nat.le_of_lt HSZ.out) (.cells #[.bool x.f0, .string x.f1, .int .i64 x.f2] 37)).alloc (by have h1 := HSZ.out; simp; omega) (.cells #[.string ⟨#[65]⟩, .string ⟨#[66]⟩, .string ⟨#[67]⟩, .string ⟨#[68]⟩] 9)).trans (hB3.mono (by have h1 := HSZ.out; simp; omega)))
            obtain ⟨yn, rfl⟩ : ∃ n : Nat, y = n := ⟨y.toNat, by omega⟩
            obtain ⟨c', hc'⟩ : ∃ c', c' = abcd.getD yn ByteArray.empty := ⟨_, rfl⟩
            have hdc := cell_at hd3 yn
            rw [strs_at yn (by omega), ← hc'] at hdc
            replace HMX := Aside0.mk (show mp t x = ⟨x.f0, c', x.f2⟩ by rw [HMX.out, Int.toNat_natCast, hc'])
            clear hc'
            have hg0 := cell_at hg3 0
            have hg1 := cell_at hg3 1
            have hg2 := cell_at hg3 2
            simp only [List.getElem?_toArray, List.getElem?_cons_zero, List.getElem?_cons_succ] at hg0 hg1 hg2
            have HG3 := Aside0.mk hg3
            have hfr := free_at hg3 1
            have HX3 := Aside0.mk hx3
            clear hb3 hB3 hg3 hd3 hx3
            have HPM := Aside0.mk (show Kd.M k37 (w3.setCell ⟨wr.heap.size, 1, none⟩ (.string c')) w.heap.size (fun _ => False) (mp t x) [.bool x.f0, .string c', .int .i64 x.f2] by rw [HMX.out]; exact k37_mkM _ _ _ ⟨x.f0, c', x.f2⟩)
            have HS3 := Aside0.mk hsz3
            have HW3 := Aside0.mk (show (w3.setCell ⟨wr.heap.size, 1, none⟩ (.string c')).heap.size = w3.heap.size by simp)
            have HOW := Aside0.mk (show Kd.R k37 37 (w3.setCell ⟨wr.heap.size, 1, none⟩ (.string c')) w.heap.size (fun b => b ≠ w.heap.size) _ ((l.take i).map (mp t)) from Kd.R_mono (Kd.R_far HO3.out (fun k hk => Nat.ne_of_lt hk.2.2.1) _) (fun k hk => hk.1))
            have HBW := Aside0.mk (show Below w.heap.size w (w3.setCell ⟨wr.heap.size, 1, none⟩ (.string c')) from below_set HB3.out (by have h1 := HSZ.out; simp; omega))
            go_wp2_with ((with_reducible refine gate_builtin (b := .append) (xs := #[.tmp 45, .tmp 47]) rfl ?_); at_builtin; (refine Kd.R_append k37 (w0 := w) (W := (w3.setCell ⟨wr.heap.size, 1, none⟩ (.string c'))) w.heap.size rfl (.tmp 45) (.tmp 47) 22 37 (.agg #[(.bool false), (.string ⟨#[]⟩), (.int .i64 0)]) 32 rfl Try.underlying22 mapped_info rfl (by decide) (by omega) _ ((l.take i).map (mp t)) (mp t x) [.bool x.f0, .string c', .int .i64 x.f2] (fun b => b ≠ w.heap.size) (fun _ => False) rfl (by simp [Act.eval]) ?aP (fun _ hk => hk.elim) ?aF ?aO ?aB ?aS ?aL ?_); (case aP => exact HPM.out); (case aB => exact HBW.out); (case aF => intro j hj hje; have h1 := HSZ.out; have h2 := HW3.out; have h3 := HS3.out; omega); (case aO => exact HOW.out); (case aS => have h1 := HSZ.out; have h2 := HW3.out; have h3 := HS3.out; omega); (case aL => simp; omega); intro v1 w4 ho4 hb4 hg4 hat4; have HO4 := Aside0.mk ho4; have HB4 := Aside0.mk hb4; have HBX4 := Aside0.mk (show w4.heap[w.heap.size]? = some (.cells #[.int .i64 (t 0), .int .i64 (t 1), .int .i64 (t 2), .int .i64 (t 3)] 51 (0, 0)) from (hg4.block _ (by have h1 := HSZ.out; have h2 := HW3.out; have h3 := HS3.out; omega) (fun e => HO.out.1 _ e.symm rfl)).trans (at_set HX3.out (by have h1 := HSZ.out; simp; omega) _)); clear ho4 hb4 hg4 hat4)
            go_roundw
            case rel => exact ⟨i + 1, by omega, by go_num, ⟨by rw [mapped_step t l i hlt, ← HX.out]; exact HO4.out, HB4.out, HBX4.out⟩⟩
            case measure => simp [intOf]; omega
        · have hmx : mp t x = x := by
            unfold mp mcls
            rw [if_neg fun hc => hbb ⟨by have := hc.2.1; rw [hbt] at this; omega, by have := hc.2.2; rw [hbt] at this; omega⟩]
          by_cases hlo : 65 ≤ (x.f1[0]'hs0).toNat
          · have hhi : ¬ (x.f1[0]'hs0).toNat ≤ 68 := fun h => hbb ⟨hlo, h⟩
            have HPM := Aside0.mk (show Kd.M k37 (wr.alloc (.cells #[.bool x.f0, .string x.f1, .int .i64 x.f2] 37)) w.heap.size (fun _ => False) (mp t x) [.bool x.f0, .string x.f1, .int .i64 x.f2] by rw [hmx]; exact k37_mkM _ _ _ x)
            clear hmx hbt hbb
            go_wp2_with ((with_reducible refine gate_builtin (b := .append) (xs := #[.tmp 45, .tmp 47]) rfl ?_); at_builtin; (refine Kd.R_append k37 (w0 := w) (W := wr.alloc (.cells #[.bool x.f0, .string x.f1, .int .i64 x.f2] 37)) w.heap.size rfl (.tmp 45) (.tmp 47) 22 37 (.agg #[(.bool false), (.string ⟨#[]⟩), (.int .i64 0)]) 32 rfl Try.underlying22 mapped_info rfl (by decide) (by omega) _ ((l.take i).map (mp t)) (mp t x) [.bool x.f0, .string x.f1, .int .i64 x.f2] (fun b => b ≠ w.heap.size) (fun _ => False) rfl (by simp [Act.eval]) ?aP (fun _ hk => hk.elim) ?aF ?aO ?aB ?aS ?aL ?_); (case aP => exact HPM.out); (case aB => exact HB.out.alloc (Nat.le_of_lt HSZ.out) _); (case aF => intro j hj hje; have h1 := HSZ.out; simp at hj; omega); (case aO => exact Kd.R_alloc HO.out _); (case aS => have h1 := HSZ.out; simp; omega); (case aL => simp; omega); intro v1 w4 ho4 hb4 hg4 hat4; have HO4 := Aside0.mk ho4; have HB4 := Aside0.mk hb4; have HBX4 := Aside0.mk (show w4.heap[w.heap.size]? = some (.cells #[.int .i64 (t 0), .int .i64 (t 1), .int .i64 (t 2), .int .i64 (t 3)] 51 (0, 0)) from (hg4.block _ (by have h1 := HSZ.out; simp; omega) (fun e => HO.out.1 _ e.symm rfl)).trans (at_alloc HBX.out _)); clear ho4 hb4 hg4 hat4)
            go_roundw
            case rel => exact ⟨i + 1, by omega, by go_num, ⟨by rw [mapped_step t l i hlt, ← HX.out]; exact HO4.out, HB4.out, HBX4.out⟩⟩
            case measure => simp [intOf]; omega
          · skip
            have HPM := Aside0.mk (show Kd.M k37 (wr.alloc (.cells #[.bool x.f0, .string x.f1, .int .i64 x.f2] 37)) w.heap.size (fun _ => False) (mp t x) [.bool x.f0, .string x.f1, .int .i64 x.f2] by rw [hmx]; exact k37_mkM _ _ _ x)
            clear hmx hbt hbb
            go_wp2_with ((with_reducible refine gate_builtin (b := .append) (xs := #[.tmp 45, .tmp 47]) rfl ?_); at_builtin; (refine Kd.R_append k37 (w0 := w) (W := wr.alloc (.cells #[.bool x.f0, .string x.f1, .int .i64 x.f2] 37)) w.heap.size rfl (.tmp 45) (.tmp 47) 22 37 (.agg #[(.bool false), (.string ⟨#[]⟩), (.int .i64 0)]) 32 rfl Try.underlying22 mapped_info rfl (by decide) (by omega) _ ((l.take i).map (mp t)) (mp t x) [.bool x.f0, .string x.f1, .int .i64 x.f2] (fun b => b ≠ w.heap.size) (fun _ => False) rfl (by simp [Act.eval]) ?aP (fun _ hk => hk.elim) ?aF ?aO ?aB ?aS ?aL ?_); (case aP => exact HPM.out); (case aB => exact HB.out.alloc (Nat.le_of_lt HSZ.out) _); (case aF => intro j hj hje; have h1 := HSZ.out; simp at hj; omega); (case aO => exact Kd.R_alloc HO.out _); (case aS => have h1 := HSZ.out; simp; omega); (case aL => simp; omega); intro v1 w4 ho4 hb4 hg4 hat4; have HO4 := Aside0.mk ho4; have HB4 := Aside0.mk hb4; have HBX4 := Aside0.mk (show w4.heap[w.heap.size]? = some (.cells #[.int .i64 (t 0), .int .i64 (t 1), .int .i64 (t 2), .int .i64 (t 3)] 51 (0, 0)) from (hg4.block _ (by have h1 := HSZ.out; simp; omega) (fun e => HO.out.1 _ e.symm rfl)).trans (at_alloc HBX.out _)); clear ho4 hb4 hg4 hat4)
            go_roundw
            case rel => exact ⟨i + 1, by omega, by go_num, ⟨by rw [mapped_step t l i hlt, ← HX.out]; exact HO4.out, HB4.out, HBX4.out⟩⟩
            case measure => simp [intOf]; omega
      · have h1' : ¬ ((x.f1.size : Int) = 1) := by omega
        have hmx : mp t x = x := by unfold mp mcls; rw [if_neg fun hc => h1 hc.1]
        have HPM := Aside0.mk (show Kd.M k37 (wr.alloc (.cells #[.bool x.f0, .string x.f1, .int .i64 x.f2] 37)) w.heap.size (fun _ => False) (mp t x) [.bool x.f0, .string x.f1, .int .i64 x.f2] by rw [hmx]; exact k37_mkM _ _ _ x)
        clear hmx
        go_wp2_with ((with_reducible refine gate_builtin (b := .append) (xs := #[.tmp 45, .tmp 47]) rfl ?_); at_builtin; (refine Kd.R_append k37 (w0 := w) (W := wr.alloc (.cells #[.bool x.f0, .string x.f1, .int .i64 x.f2] 37)) w.heap.size rfl (.tmp 45) (.tmp 47) 22 37 (.agg #[(.bool false), (.string ⟨#[]⟩), (.int .i64 0)]) 32 rfl Try.underlying22 mapped_info rfl (by decide) (by omega) _ ((l.take i).map (mp t)) (mp t x) [.bool x.f0, .string x.f1, .int .i64 x.f2] (fun b => b ≠ w.heap.size) (fun _ => False) rfl (by simp [Act.eval]) ?aP (fun _ hk => hk.elim) ?aF ?aO ?aB ?aS ?aL ?_); (case aP => exact HPM.out); (case aB => exact HB.out.alloc (Nat.le_of_lt HSZ.out) _); (case aF => intro j hj hje; have h1 := HSZ.out; simp at hj; omega); (case aO => exact Kd.R_alloc HO.out _); (case aS => have h1 := HSZ.out; simp; omega); (case aL => simp; omega); intro v1 w4 ho4 hb4 hg4 hat4; have HO4 := Aside0.mk ho4; have HB4 := Aside0.mk hb4; have HBX4 := Aside0.mk (show w4.heap[w.heap.size]? = some (.cells #[.int .i64 (t 0), .int .i64 (t 1), .int .i64 (t 2), .int .i64 (t 3)] 51 (0, 0)) from (hg4.block _ (by have h1 := HSZ.out; simp; omega) (fun e => HO.out.1 _ e.symm rfl)).trans (at_alloc HBX.out _)); clear ho4 hb4 hg4 hat4)
        go_roundw
        case rel => exact ⟨i + 1, by omega, by go_num, ⟨by rw [mapped_step t l i hlt, ← HX.out]; exact HO4.out, HB4.out, HBX4.out⟩⟩
        case measure => simp [intOf]; omega
    · have hiN : i = l.length := by omega
      have HI := Aside0.mk hiN
      clear hiN
      go_wp2
      go_ret
      refine ⟨_, rfl, ?_, HB.out⟩
      have := HO.out
      rw [HI.out, List.take_length] at this
      exact Kd.R_mono this (fun _ _ => trivial)
end Go.Proofs.Ytokfalcmkmelpaa.Pure
