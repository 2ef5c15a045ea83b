/- words.word and what calls it: classes, tags. -/
import Derived.Test.YtnefifgfpljlkaaProg
import Derived.Test.YtnefifgfpljlkaaWMore
import Derived.Deep.QuietTactic
import Derived.BigQuiet
import Derived.KernelRfl
import Derived.Laws.EntriesVeiled
import Derived.WalkLawsBesides
import Derived.Test.YtnefifgfpljlkaaWLast
import Derived.Test.YtnefifgfpljlkaaRG
namespace Go.Proofs.YtnefifgfpljlkaaWords
open Go.RowKit Go.Proofs.YtnefifgfpljlkaaW.PrintWords Go.Proofs.YtnefifgfpljlkaaW.PrintLast Go.Proofs.YtnefifgfpljlkaaRF Go.Proofs.YtnefifgfpljlkaaRG
set_option linter.unusedSimpArgs false
set_option linter.unusedVariables false
attribute [local go_sem] Oper.semAt_some
/-! ### plain -/
def small (c : Int) : Bool := decide (97 ≤ c) && decide (c ≤ 122)
def great (c : Int) : Bool := decide (65 ≤ c) && decide (c ≤ 90)
def digit (c : Int) : Bool := decide (48 ≤ c) && decide (c ≤ 57)
def sign (c : Int) : Bool := small c || great c || digit c
/-- From byte i on all are letters or digits. -/
def signs (s : ByteArray) (i : Nat) : Bool := (s.data.toList.drop i).all fun c => sign (c.toNat : Int)
def word (first : Int → Bool) (s : ByteArray) : Bool := decide (0 < s.size) && decide (s.size ≤ 20) && first (bt s 0) && signs s 0
theorem signs_end (s : ByteArray) {i : Nat} (h : s.size ≤ i) : signs s i = true := by
  unfold signs
  rw [List.drop_of_length_le (by simpa using h)]; rfl
theorem signs_at (s : ByteArray) {i : Nat} (h : i < s.size) : signs s i = (sign ((s[i]'h).toNat : Int) && signs s (i + 1)) := by
  unfold signs
  rw [List.drop_eq_getElem_cons (by simpa using h), List.all_cons]; rfl
/-! ### the letters' kinds -/
theorem small_calls (c : Int) (w : World) : Calls Try.prog 81 #[.int .u8 c] w fun e w' => e = .returned (.bool (small c)) ∧ w' = w := by
  unfold small
  by_cases h : 97 ≤ c
  · have h1 : decide (97 ≤ c) = true := by simpa using h
    go_enter Try.func81, Try.ntmps81
    go_wp2
    go_ret
    exact ⟨by rw [h1]; rfl, rfl⟩
  · have h1 : decide (97 ≤ c) = false := by simpa using h
    go_enter Try.func81, Try.ntmps81
    go_wp2
    go_ret
    exact ⟨rfl, rfl⟩
theorem great_calls (c : Int) (w : World) : Calls Try.prog 72 #[.int .u8 c] w fun e w' => e = .returned (.bool (great c)) ∧ w' = w := by
  unfold great
  by_cases h : 65 ≤ c
  · have h1 : decide (65 ≤ c) = true := by simpa using h
    go_enter Try.func72, Try.ntmps72
    go_wp2
    go_ret
    exact ⟨by rw [h1]; rfl, rfl⟩
  · have h1 : decide (65 ≤ c) = false := by simpa using h
    go_enter Try.func72, Try.ntmps72
    go_wp2
    go_ret
    exact ⟨rfl, rfl⟩
theorem digit_calls (c : Int) (w : World) : Calls Try.prog 82 #[.int .u8 c] w fun e w' => e = .returned (.bool (digit c)) ∧ w' = w := by
  unfold digit
  by_cases h : 48 ≤ c
  · have h1 : decide (48 ≤ c) = true := by simpa using h
    go_enter Try.func82, Try.ntmps82
    go_wp2
    go_ret
    exact ⟨by rw [h1]; rfl, rfl⟩
  · have h1 : decide (48 ≤ c) = false := by simpa using h
    go_enter Try.func82, Try.ntmps82
    go_wp2
    go_ret
    exact ⟨rfl, rfl⟩
/-! ### word -/
set_option maxHeartbeats 4000000 in
set_option maxRecDepth 100000 in
theorem word_great (s : ByteArray) (w : World) (hs : s.size ≤ maxLen) :
    Calls Try.prog 71 #[.string s, .func (.func 72) #[] #[]] w fun e w' => e = .returned (.bool (word great s)) ∧ Below w.heap.size w w' := by
  unfold maxLen at hs
  have hsz : s.toList.length = s.size := by rw [ByteArray.toList_eq, Array.length_toList]; rfl
  by_cases h0 : s.toList = []
  · have h0b : (!s.toList.isEmpty) = false := by rw [h0]; rfl
    have hw : word great s = false := by
      unfold word
      have : s.size = 0 := by rw [← hsz, h0]; rfl
      rw [this]; rfl
    have HW := Aside0.mk hw
    clear hw hsz
    go_enter Try.func71, Try.ntmps71
    go_wp2
    go_ret
    exact ⟨by rw [HW.out]; rfl, (Below.refl _ _).alloc (Nat.le_refl _) _⟩
  have h0b : (!s.toList.isEmpty) = true := by cases h : s.toList <;> simp_all
  have h0c : s.toList.isEmpty = false := by simpa using h0b
  have hpos : 0 < s.size := by rw [← hsz]; exact List.length_pos_iff.2 h0
  by_cases h20 : 20 < s.size
  · have hw : word great s = false := by
      unfold word
      rw [show decide (s.size ≤ 20) = false by simpa using h20]
      simp
    have hd : decide (20 < (s.size : Int)) = true := by simp; omega
    have HW := Aside0.mk hw
    clear hw hsz
    go_enter Try.func71, Try.ntmps71
    go_wp2
    go_ret
    exact ⟨by rw [HW.out]; rfl, (Below.refl _ _).alloc (Nat.le_refl _) _⟩
  have hd : decide (20 < (s.size : Int)) = false := by simp; omega
  have hbt : bt s 0 = ((s[0]'hpos).toNat : Int) := by unfold bt; simp [hpos]
  obtain ⟨b, hb⟩ : ∃ b, b = great ((s[0]'hpos).toNat : Int) := ⟨_, rfl⟩
  have HBT := Aside0.mk hbt
  clear hsz hbt
  cases b with
  | false =>
    have HW := Aside0.mk (show word great s = false by unfold word; rw [HBT.out, ← hb]; simp)
    have HB := Aside0.mk hb
    clear hb
    go_enter Try.func71, Try.ntmps71
    go_wp2_with (go_at_call 72; refine (great_calls _ _).mono ?_; rintro e w' ⟨rfl, rfl⟩; rw [← HB.out])
    go_ret
    exact ⟨by rw [HW.out]; rfl, (Below.refl _ _).alloc (Nat.le_refl _) _⟩
  | true =>
    have HW := Aside0.mk (show word great s = signs s 0 by unfold word; rw [HBT.out, ← hb, show decide (0 < s.size) = true by simpa using hpos, show decide (s.size ≤ 20) = true by simp; simpa using h20]; simp)
    have HB := Aside0.mk hb
    clear hb
    go_enter Try.func71, Try.ntmps71
    go_wp2_with (go_at_call 72; refine (great_calls _ _).mono ?_; rintro e w' ⟨rfl, rfl⟩; rw [← HB.out])
    go_loopw [24] (fun v24 wr => ∃ i : Nat, i ≤ s.size ∧ v24 = .int .i64 i ∧ Aside0 (signs s 0 = signs s i ∧ Below w.heap.size w wr ∧ wr.heap[w.heap.size]? = some (.cells #[.func (.func 81) #[] #[], .func (.func 72) #[] #[], .func (.func 82) #[] #[]] 104 (0, 0))))
      (fun v24 _ => s.size - (intOf v24).toNat)
    case atStart => exact ⟨0, Nat.zero_le _, rfl, ⟨rfl, (Below.refl _ _).alloc (Nat.le_refl _) _, at_new _ _ rfl⟩⟩
    case round =>
      obtain ⟨i, hi, rfl, ⟨hsg, hbl, hbox⟩⟩ := hrel
      have HSG := Aside0.mk hsg
      have HBL := Aside0.mk hbl
      have HBX := Aside0.mk hbox
      have k0 := cell_at hbox 0
      have k1 := cell_at hbox 1
      have k2 := cell_at hbox 2
      simp only [List.getElem?_toArray, List.getElem?_cons_zero, List.getElem?_cons_succ] at k0 k1 k2
      clear hsg hbl hbox
      by_cases hlt : i < s.size
      · have HN := Aside0.mk (signs_at s hlt)
        obtain ⟨c, hc⟩ : ∃ c : Int, c = ((s[i]'hlt).toNat : Int) := ⟨_, rfl⟩
        clear hc
        cases hs1 : small ((s[i]'hlt).toNat : Int) with
        | true =>
          have HS := Aside0.mk (show sign ((s[i]'hlt).toNat : Int) = true by unfold sign; rw [hs1]; rfl)
          go_wp2_with fail
          go_quiet (first | (go_at_call 81; exact Calls.quiet_of_same (small_calls _ _)) | (go_at_call 72; exact Calls.quiet_of_same (great_calls _ _)) | (go_at_call 82; exact Calls.quiet_of_same (digit_calls _ _)))
          go_wp2_with fail
          go_roundw
          case rel => exact ⟨i + 1, by omega, by go_num, ⟨by rw [HSG.out, HN.out, HS.out]; rfl, pw_below_drewN HBL.out _, HBX.out⟩⟩
          case measure => simp [intOf]; omega
        | false =>
          cases hs2 : great ((s[i]'hlt).toNat : Int) with
          | true =>
            have HS := Aside0.mk (show sign ((s[i]'hlt).toNat : Int) = true by unfold sign; rw [hs1, hs2]; rfl)
            go_wp2_with fail
            go_quiet (first | (go_at_call 81; exact Calls.quiet_of_same (small_calls _ _)) | (go_at_call 72; exact Calls.quiet_of_same (great_calls _ _)) | (go_at_call 82; exact Calls.quiet_of_same (digit_calls _ _)))
            go_wp2_with fail
            go_roundw
            case rel => exact ⟨i + 1, by omega, by go_num, ⟨by rw [HSG.out, HN.out, HS.out]; rfl, pw_below_drewN HBL.out _, HBX.out⟩⟩
            case measure => simp [intOf]; omega
          | false =>
            cases hs3 : digit ((s[i]'hlt).toNat : Int) with
            | true =>
              have HS := Aside0.mk (show sign ((s[i]'hlt).toNat : Int) = true by unfold sign; rw [hs1, hs2, hs3]; rfl)
              go_wp2_with fail
              go_quiet (first | (go_at_call 81; exact Calls.quiet_of_same (small_calls _ _)) | (go_at_call 72; exact Calls.quiet_of_same (great_calls _ _)) | (go_at_call 82; exact Calls.quiet_of_same (digit_calls _ _)))
              go_wp2_with fail
              go_roundw
              case rel => exact ⟨i + 1, by omega, by go_num, ⟨by rw [HSG.out, HN.out, HS.out]; rfl, pw_below_drewN HBL.out _, HBX.out⟩⟩
              case measure => simp [intOf]; omega
            | false =>
              have HS := Aside0.mk (show sign ((s[i]'hlt).toNat : Int) = false by unfold sign; rw [hs1, hs2, hs3]; rfl)
              go_wp2_with fail
              go_quiet (first | (go_at_call 81; exact Calls.quiet_of_same (small_calls _ _)) | (go_at_call 72; exact Calls.quiet_of_same (great_calls _ _)) | (go_at_call 82; exact Calls.quiet_of_same (digit_calls _ _)))
              go_wp2_with fail
              go_ret
              exact ⟨by rw [HW.out, HSG.out, HN.out, HS.out]; rfl, pw_below_drewN HBL.out _⟩
      · have HE := Aside0.mk (signs_end s (i := i) (by omega))
        go_wp2_with fail
        go_ret
        exact ⟨by rw [HW.out, HSG.out, HE.out]; rfl, HBL.out⟩
/-! ### what calls it -/
theorem bases_calls (w : World) : Calls Try.prog 57 #[] w fun e w' => e = .returned (.agg #[.string ⟨#[105, 110, 116]⟩, .string ⟨#[114, 101, 97, 108]⟩, .string ⟨#[98, 111, 111, 108]⟩, .string ⟨#[115, 116, 114]⟩, .string ⟨#[117, 110, 105, 116]⟩]) ∧ Below w.heap.size w w' := by
  go_enter Try.func57, Try.ntmps57
  go_wp2
  exact bodyPost_ret (v := .agg #[.string ⟨#[105, 110, 116]⟩, .string ⟨#[114, 101, 97, 108]⟩, .string ⟨#[98, 111, 111, 108]⟩, .string ⟨#[115, 116, 114]⟩, .string ⟨#[117, 110, 105, 116]⟩]) (by simp [results, Try.results57, go_sem]) rfl ⟨rfl, (Below.refl _ _).alloc (Nat.le_refl _) _⟩
/-- A base type's tag; 0: none. -/
def tag (s : ByteArray) : Int :=
  if s.toList = [105, 110, 116] then 1 else if s.toList = [114, 101, 97, 108] then 2 else if s.toList = [98, 111, 111, 108] then 3 else if s.toList = [115, 116, 114] then 4 else if s.toList = [117, 110, 105, 116] then 5 else 0
def base (i : Nat) : ByteArray := ([⟨#[105, 110, 116]⟩, ⟨#[114, 101, 97, 108]⟩, ⟨#[98, 111, 111, 108]⟩, ⟨#[115, 116, 114]⟩, ⟨#[117, 110, 105, 116]⟩] : List ByteArray).getD i ByteArray.empty
def basesV : Value := .agg #[.string ⟨#[105, 110, 116]⟩, .string ⟨#[114, 101, 97, 108]⟩, .string ⟨#[98, 111, 111, 108]⟩, .string ⟨#[115, 116, 114]⟩, .string ⟨#[117, 110, 105, 116]⟩]
theorem index_bases (w : World) (i : Nat) (h : i < 5) : (Instr.index 83 (.agg #[.string ⟨#[105, 110, 116]⟩, .string ⟨#[114, 101, 97, 108]⟩, .string ⟨#[98, 111, 111, 108]⟩, .string ⟨#[115, 116, 114]⟩, .string ⟨#[117, 110, 105, 116]⟩]) (.int .i64 (i : Int))).run Try.prog w = .ok (.string (base i)) w := by
  rcases (by omega : i = 0 ∨ i = 1 ∨ i = 2 ∨ i = 3 ∨ i = 4) with rfl | rfl | rfl | rfl | rfl <;> kernel_rfl
def tag2 (s : ByteArray) : Int × Int := if tag s = 0 then (0, 7) else (tag s, 0)
theorem base0 : (base 0).toList = [105, 110, 116] := by rw [ByteArray.toList_eq]; rfl
theorem base1 : (base 1).toList = [114, 101, 97, 108] := by rw [ByteArray.toList_eq]; rfl
theorem base2 : (base 2).toList = [98, 111, 111, 108] := by rw [ByteArray.toList_eq]; rfl
theorem base3 : (base 3).toList = [115, 116, 114] := by rw [ByteArray.toList_eq]; rfl
theorem base4 : (base 4).toList = [117, 110, 105, 116] := by rw [ByteArray.toList_eq]; rfl
theorem tag_yes {s : ByteArray} {i : Nat} (hi : i < 5) (h : (base i).toList = s.toList) : tag2 s = ((i : Int) + 1, 0) := by
  unfold tag2 tag
  rcases (by omega : i = 0 ∨ i = 1 ∨ i = 2 ∨ i = 3 ∨ i = 4) with rfl | rfl | rfl | rfl | rfl <;> rw [← h] <;> simp [base0, base1, base2, base3, base4]
theorem tag_no {s : ByteArray} (h : ∀ j, j < 5 → (base j).toList ≠ s.toList) : tag2 s = (0, 7) := by
  have h0 : s.toList ≠ [105, 110, 116] := fun e => h 0 (by omega) (base0.trans e.symm)
  have h1 : s.toList ≠ [114, 101, 97, 108] := fun e => h 1 (by omega) (base1.trans e.symm)
  have h2 : s.toList ≠ [98, 111, 111, 108] := fun e => h 2 (by omega) (base2.trans e.symm)
  have h3 : s.toList ≠ [115, 116, 114] := fun e => h 3 (by omega) (base3.trans e.symm)
  have h4 : s.toList ≠ [117, 110, 105, 116] := fun e => h 4 (by omega) (base4.trans e.symm)
  unfold tag2 tag
  rw [if_neg h0, if_neg h1, if_neg h2, if_neg h3, if_neg h4]; rfl
set_option maxHeartbeats 4000000 in
set_option maxRecDepth 100000 in
theorem Tag_calls (s : ByteArray) (w : World) (x y : Int) (hxy : tag2 s = (x, y)) : Calls Try.prog 38 #[.string s] w fun e w' => e = .returned (.tuple #[.int .i64 x, .int .i64 y]) ∧ Below w.heap.size w w' := by
  have HXY := Aside0.mk hxy
  clear hxy
  have ix := fun w => index_bases w
  go_enter Try.func38, Try.ntmps38
  go_wp2_with (go_at_call 57; refine (bases_calls _).mono ?_; rintro e w' ⟨rfl, hb⟩; have HB := Aside0.mk hb; clear hb)
  go_loop [7] (fun v7 => ∃ i : Nat, i ≤ 5 ∧ v7 = .int .i64 i ∧ Aside0 (∀ j, j < i → (base j).toList ≠ s.toList)) (fun v7 => 5 - (intOf v7).toNat)
  case atStart => exact ⟨0, by omega, rfl, ⟨fun j h => by omega⟩⟩
  case round =>
    obtain ⟨i, hi, rfl, HN⟩ := hrel
    by_cases hlt : i < 5
    · have hx := fun w => ix w i hlt
      obtain ⟨b, hb⟩ : ∃ b, b = base i := ⟨_, rfl⟩
      rw [← hb] at hx
      have HBI := Aside0.mk hb
      clear ix hb
      by_cases he : b.toList = s.toList
      · have HE := Aside0.mk (tag_yes hlt (HBI.out ▸ he))
        have hq : (b.toList == s.toList) = true := by simpa using he
        clear he
        go_wp2_with fail
        go_ret2
        obtain ⟨rfl, rfl⟩ := Prod.mk.inj (HXY.out.symm.trans HE.out)
        exact ⟨rfl, HB.out⟩
      · have HE := Aside0.mk he
        have hq : (b.toList == s.toList) = false := by simpa using he
        clear he
        go_wp2_with fail
        go_round
        case rel => exact ⟨i + 1, by omega, by go_num, ⟨fun j hj => by
          by_cases hji : j = i
          · rw [hji, ← HBI.out]; exact HE.out
          · exact HN.out j (by omega)⟩⟩
        case measure => simp [intOf]; omega
    · have hi5 : i = 5 := by omega
      have HE := Aside0.mk (tag_no (hi5 ▸ HN.out))
      obtain ⟨rfl, rfl⟩ := Prod.mk.inj (HXY.out.symm.trans HE.out)
      clear hi5
      go_wp2_with fail
      go_ret2
      exact ⟨rfl, HB.out⟩
theorem OfTag_calls (t : Int) (w : World) (x : ByteArray) (y : Int) (hxy : (if 1 ≤ t ∧ t ≤ 5 then (base (t - 1).toNat, (0 : Int)) else (⟨#[]⟩, 7)) = (x, y)) : Calls Try.prog 44 #[.int .i64 t] w fun e w' => e = .returned (.tuple #[.string x, .int .i64 y]) ∧ Below w.heap.size w w' := by
  by_cases h : 1 ≤ t ∧ t ≤ 5
  · rw [if_pos h] at hxy
    obtain ⟨rfl, rfl⟩ := Prod.mk.inj hxy
    obtain ⟨h1, h5⟩ := h
    have hi := fun w => index_bases w (t - 1).toNat (by omega)
    obtain ⟨n, rfl⟩ : ∃ n : Nat, t = n + 1 := ⟨(t - 1).toNat, by omega⟩
    rw [show ((n : Int) + 1 - 1).toNat = n by omega] at hi ⊢
    obtain ⟨b, hb⟩ : ∃ b, b = base n := ⟨_, rfl⟩
    rw [← hb] at hi ⊢
    clear hb hxy
    go_enter Try.func44, Try.ntmps44
    go_wp2_with (go_at_call 57; refine (bases_calls _).mono ?_; rintro e w' ⟨rfl, hb⟩; have HB := Aside0.mk hb; clear hb)
    go_ret2
    exact ⟨rfl, HB.out⟩
  · rw [if_neg h] at hxy
    obtain ⟨rfl, rfl⟩ := Prod.mk.inj hxy
    by_cases h1 : 1 ≤ t
    · have h5 : ¬ t ≤ 5 := fun e => h ⟨h1, e⟩
      clear h
      go_enter Try.func44, Try.ntmps44
      go_wp2
      go_ret2
      exact ⟨rfl, Below.refl _ _⟩
    · clear h
      go_enter Try.func44, Try.ntmps44
      go_wp2
      go_ret2
      exact ⟨rfl, Below.refl _ _⟩
end Go.Proofs.YtnefifgfpljlkaaWords
