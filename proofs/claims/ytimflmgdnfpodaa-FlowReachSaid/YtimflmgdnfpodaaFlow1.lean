/- flow: where a place goes, as an iterator. -/
import Derived.Test.YtimflmgdnfpodaaRG
import Derived.Test.YtimflmgdnfpodaaProg
namespace Go.Proofs.YtimflmgdnfpodaaFlow
open Go.RowKit Go.Proofs.YtimflmgdnfpodaaW.PrintWords Go.Proofs.YtimflmgdnfpodaaW.PrintLast Go.Proofs.YtimflmgdnfpodaaRF Go.Proofs.YtimflmgdnfpodaaRG
set_option linter.unusedSimpArgs false
set_option linter.unusedVariables false
attribute [local go_sem] Oper.semAt_some

/-! ### slices.Contains, at ints -/
def idxI (s : Int) : List Int → Nat → Int
  | [], _ => -1
  | x :: r, i => if s = x then (i : Int) else idxI s r (i + 1)
theorem idxI_at (s : Int) (l : List Int) (i : Nat) (h : i < l.length) : idxI s (l.drop i) i = if s = rdOf 0 l (i : Int) then (i : Int) else idxI s (l.drop (i + 1)) (i + 1) := by
  rw [List.drop_eq_getElem_cons h]
  unfold rdOf
  rw [Int.toNat_natCast, List.getD_eq_getElem?_getD, List.getElem?_eq_getElem h]; rfl
theorem idxI_mem (s : Int) : ∀ (l : List Int) (i : Nat), decide (idxI s l i ≥ 0) = decide (s ∈ l)
  | [], i => rfl
  | x :: r, i => by
    unfold idxI
    by_cases h : s = x
    · simp [h]
    · rw [if_neg h, idxI_mem s r (i + 1)]; simp [h]
set_option maxHeartbeats 1000000 in
set_option maxRecDepth 100000 in
theorem IndexI_calls (A0 : Option Addr) (c0 : Nat) (l0 : List Int) (a1 : Int) (w : World) (hr0 : Kd.C (Kd.int .i64) w A0 l0.length l0) (hl : l0.length < 4398046511104) :
    Calls Try.prog 42 #[.slice A0 l0.length c0, .int .i64 a1] w fun e w' => e = .returned (.int .i64 (idxI a1 l0 0)) ∧ w' = w := by
  obtain ⟨r, hr⟩ : ∃ r, r = idxI a1 l0 0 := ⟨_, rfl⟩
  rw [← hr]
  have HH := Aside0.mk hr.symm
  have HR0 := Aside0.mk (Kd.reads_of_C (d := (0 : Int)) hr0)
  clear hr0 hr
  go_enter Try.func42, Try.ntmps42
  go_wp2
  go_loop [8] (fun v8 => ∃ i : Nat, i ≤ l0.length ∧ v8 = .int .i64 i ∧ Aside0 (idxI a1 (l0.drop i) i = r)) (fun v8 => l0.length - (intOf v8).toNat)
  case atStart => exact ⟨0, Nat.zero_le _, rfl, HH⟩
  case round =>
    obtain ⟨i, hi, rfl, HI⟩ := hrel
    by_cases hlt : i < l0.length
    · obtain ⟨ad, hA, x0⟩ := HR0.out.at_ (i : Int) (by omega) (by omega)
      rw [Int.toNat_natCast] at x0
      have HA := idxI_at a1 l0 i hlt
      rw [HI.out] at HA
      obtain ⟨x, hx⟩ : ∃ x, x = rdOf 0 l0 (i : Int) := ⟨_, rfl⟩
      rw [← hx] at HA x0
      clear hx
      subst hA
      by_cases he : a1 = x
      · rw [if_pos he] at HA
        subst HA
        subst he
        go_wp2
        go_ret
        exact ⟨rfl, rfl⟩
      · rw [if_neg he] at HA
        have HA2 := Aside0.mk HA.symm
        clear HA
        go_wp2
        go_round
        case rel => exact ⟨i + 1, by omega, by go_num, HA2⟩
        case measure => simp [intOf]; omega
    · have hi2 : i = l0.length := by omega
      have HA := HI.out
      rw [hi2, List.drop_length] at HA
      have HA2 := Aside0.mk HA
      clear HA hi2
      go_wp2
      go_ret
      exact ⟨by rw [← HA2.out]; rfl, rfl⟩
theorem ContainsI_calls (A0 : Option Addr) (c0 : Nat) (l0 : List Int) (a1 : Int) (w : World) (hr0 : Kd.C (Kd.int .i64) w A0 l0.length l0) (hl : l0.length < 4398046511104) :
    Calls Try.prog 39 #[.slice A0 l0.length c0, .int .i64 a1] w fun e w' => e = .returned (.bool (decide (a1 ∈ l0))) ∧ w' = w := by
  rw [← idxI_mem a1 l0 0]
  have HI := Aside0.mk (IndexI_calls A0 c0 l0 a1 w hr0 hl)
  obtain ⟨r, hr⟩ : ∃ r, r = idxI a1 l0 0 := ⟨_, rfl⟩
  rw [← hr] at HI ⊢
  clear hr0 hr
  go_enter Try.func39, Try.ntmps39
  go_wp2_with fail
  refine HI.out.mono ?_
  rintro e w1 ⟨rfl, rfl⟩
  clear HI
  go_wp2_with fail
  go_ret
  exact ⟨rfl, rfl⟩

/-! ### each, goes -/
/-- The places that each hands on. -/
def goesL (op a place : Int) : List Int := if op = 11 then [a] else if op = 12 then [wrap64 (place + 1), a] else if op = 28 then [] else [wrap64 (place + 1)]
theorem each_calls (A : Option Addr) (n c : Nat) (w : World) :
    Calls Try.prog 35 #[.slice A n c] w fun e w' => e = .returned (.func (.func 38) #[] #[.pointer (some ⟨w.heap.size, 0, none⟩)]) ∧ w' = w.alloc (.cells #[.slice A n c] 24) := by
  go_enter Try.func35, Try.ntmps35
  go_wp2
  go_ret
  exact ⟨rfl, rfl⟩
theorem R_lits (W : World) (base : Nat) (xs : List Int) (hb : base ≤ W.heap.size) (hm : xs.length ≤ 9223372036854775807) :
    (Kd.int .i64).R 3 (W.alloc (.cells (encs (Value.int .i64) xs).toArray 3)) base (fun _ => True) (.slice (some ⟨W.heap.size, 0, none⟩) xs.length xs.length) xs := by
  have h := World.ownsRow_lit (base := base) (e := 3) (size := 1) W (encs (Value.int .i64) xs).toArray xs.length hb (by simpa [maxLen] using hm) (by simp [encs])
  exact Kd.R_of_own (by simpa using h) (fun _ _ => trivial)
structure GoesP (l : List Int) (w : World) (e : Ending) (w' : World) : Prop where
  is : ∃ (g : Nat) (A : Option Addr) (c : Nat), e = .returned (.func (.func 38) #[] #[.pointer (some ⟨g, 0, none⟩)]) ∧ w.heap.size ≤ g ∧ w'.heap[g]? = some (.cells #[.slice A l.length c] 24 (0, 0)) ∧ (Kd.int .i64).R 3 w' w.heap.size (fun _ => True) (.slice A l.length c) l
  bl : Below w.heap.size w w'
theorem GoesP.lits (w W : World) (xs : List Int) (hb : Below w.heap.size w W) (hm : xs.length ≤ 9223372036854775807) :
    GoesP xs w (.returned (.func (.func 38) #[] #[.pointer (some ⟨W.heap.size + 1, 0, none⟩)])) ((W.alloc (.cells (encs (Value.int .i64) xs).toArray 3)).alloc (.cells #[.slice (some ⟨W.heap.size, 0, none⟩) xs.length xs.length] 24)) :=
  ⟨⟨W.heap.size + 1, some ⟨W.heap.size, 0, none⟩, xs.length, rfl, by have := hb.size; omega, at_new _ _ (by simp), Kd.R_alloc (R_lits W _ xs hb.size hm) _⟩, (hb.alloc hb.size _).alloc (by have := hb.size; simp; omega) _⟩
set_option maxHeartbeats 1000000 in
theorem goes_calls (op a b c place : Int) (w : World) : Calls Try.prog 27 #[.agg #[.int .i64 op, .int .i64 a, .int .i64 b, .int .i64 c], .int .i64 place] w (GoesP (goesL op a place) w) := by
  have hu := Try.underlying40
  have hb := (Below.refl w.heap.size w).alloc (Nat.le_refl _) (.cells #[.int .i64 op, .int .i64 a, .int .i64 b, .int .i64 c] 40)
  unfold goesL
  by_cases h1 : op = 11
  · subst h1
    rw [if_pos rfl]
    have HL := Aside0.mk (GoesP.lits w _ [a] hb (by simp))
    clear hb
    go_enter Try.func27, Try.ntmps27
    go_wp2_with fail
    refine (each_calls _ _ _ _).mono ?_
    rintro e w1 ⟨rfl, rfl⟩
    go_wp2_with fail
    go_ret
    simpa [encs] using HL.out
  rw [if_neg h1]
  by_cases h2 : op = 12
  · subst h2
    rw [if_pos rfl]
    have HL := Aside0.mk (GoesP.lits w _ [wrap64 (place + 1), a] hb (by simp))
    clear hb
    go_enter Try.func27, Try.ntmps27
    go_wp2_with fail
    refine (each_calls _ _ _ _).mono ?_
    rintro e w1 ⟨rfl, rfl⟩
    go_wp2_with fail
    go_ret
    simpa [encs] using HL.out
  rw [if_neg h2]
  by_cases h3 : op = 28
  · subst h3
    rw [if_pos rfl]
    have HB := Aside0.mk hb
    clear hb
    go_enter Try.func27, Try.ntmps27
    go_wp2_with fail
    refine (each_calls _ _ _ _).mono ?_
    rintro e w1 ⟨rfl, rfl⟩
    go_wp2_with fail
    go_ret
    exact ⟨⟨w.heap.size + 1, none, 0, rfl, by omega, at_new _ _ (by simp), Kd.R_nil _ _ _ _ _⟩, HB.out.alloc HB.out.size _⟩
  · rw [if_neg h3]
    have HL := Aside0.mk (GoesP.lits w _ [wrap64 (place + 1)] hb (by simp))
    clear hb
    go_enter Try.func27, Try.ntmps27
    go_wp2_with fail
    refine (each_calls _ _ _ _).mono ?_
    rintro e w1 ⟨rfl, rfl⟩
    go_wp2_with fail
    go_ret
    simpa [encs] using HL.out
end Go.Proofs.YtimflmgdnfpodaaFlow
