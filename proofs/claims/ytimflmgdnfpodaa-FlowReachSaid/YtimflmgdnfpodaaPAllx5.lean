-- WRITTEN BY hand.py of this session, over the kit's print: a text of this seat
import Derived.Test.YtimflmgdnfpodaaPAllx0
import Derived.Test.YtimflmgdnfpodaaPAllx1
import Derived.Test.YtimflmgdnfpodaaPAllx3
import Derived.Test.YtimflmgdnfpodaaPAllx4
namespace Go.Proofs.Ytimflmgdnfpodaa.PAll
open Go.RowKit Go.Proofs.YtimflmgdnfpodaaW.PrintWords Go.Proofs.YtimflmgdnfpodaaW.PrintLast Go.Proofs.YtimflmgdnfpodaaW.PrintMore
attribute [local go_sem] max2_int min2_int max_two min_two max_three min_three max_four min_four   -- for this text's walks alone
set_option linter.unusedVariables false
set_option linter.unusedSimpArgs false

attribute [local go_sem high] eqA29
/-! ### flow_Parts: function 13 -/
open Go.Proofs.YtimflmgdnfpodaaFlow Go.Proofs.YtimflmgdnfpodaaMp in
/-- What begins a part, as the map's entries, behind i rounds. -/
def flow_Parts.keys (l0 : List (S40)) : Nat → List (Int × Int × Nat) × Nat
  | 0 => ([], 0)
  | i + 1 =>
    let x := rd_T40 l0 (i : Int)
    let m1 := if (x.f0 == 11 || x.f0 == 12) = true then upd ieq x.f1 (i : Int) (flow_Parts.keys l0 i).2 (flow_Parts.keys l0 i).1 else flow_Parts.keys l0 i
    if (x.f0 == 11 || x.f0 == 12 || x.f0 == 28) = true then upd ieq ((i : Int) + 1) (i : Int) m1.2 m1.1 else m1
/-- The last place of the part that place t is in. -/
def flow_Parts.till (n : Nat) (has : Int → Bool) : Nat → Nat → Nat
  | 0, t => t
  | k + 1, t => if (!has ((t : Int) + 1) && decide ((t : Int) + 1 < (n : Int))) = true then flow_Parts.till n has k (t + 1) else t
open Go.Proofs.YtimflmgdnfpodaaFlow in
/-- The part from place p to place t. -/
def flow_Parts.one (l0 : List (S40)) (p t : Nat) : S46 := ⟨(p : Int), (t : Int), uniq (goesL (rd_T40 l0 (t : Int)).f0 (rd_T40 l0 (t : Int)).f1 (t : Int))⟩
def flow_Parts.from (l0 : List (S40)) (has : Int → Bool) : Nat → Nat → List (S46)
  | 0, _ => []
  | k + 1, p =>
    let t := flow_Parts.till l0.length has (l0.length - p) p
    flow_Parts.one l0 p t :: (if t + 1 < l0.length then flow_Parts.from l0 has k (t + 1) else [])
open Go.Proofs.YtimflmgdnfpodaaMp Go.Proofs.YtimflmgdnfpodaaFlow in
def flow_Parts.has (l0 : List (S40)) (k : Int) : Bool := (findIdx ieq k (flow_Parts.keys l0 l0.length).1 0).isSome
def flow_Parts.f (l0 : List (S40)) : Option ((List (S46)) × Int × Int) :=
  (flow_Check.f l0).bind fun bt => if (!(bt.1 == 0) || (!(bt.2 == 0))) = true then some ([], bt.1, bt.2) else some (flow_Parts.from l0 (flow_Parts.has l0) l0.length 0, bt.1, bt.2)
theorem flow_Parts.ok (l0 : List (S40)) (h : flow_Check.f l0 = some (0, 0)) : 0 < l0.length ∧ l0.length ≤ 20000 ∧ flow_Check.at l0 l0.length 0 = none := by
  unfold flow_Check.f flow_Check.v at h
  by_cases h1 : (l0.length : Int) > 20000
  · rw [if_pos h1] at h; simp at h
  rw [if_neg h1] at h
  by_cases h2 : (l0.length : Int) = 0
  · rw [if_pos h2] at h; simp at h
  rw [if_neg h2] at h
  refine ⟨by omega, by omega, ?_⟩
  cases ha : flow_Check.at l0 l0.length 0 with
  | none => rfl
  | some i => rw [ha] at h; simp at h
/-- Between two rounds over the code. -/
structure flow_Parts.I (l0 : List (S40)) (w : World) (B : Nat) (i : Nat) (wr : World) : Prop where
  bR : wr.heap[w.heap.size]? = some (.cells #[.int .i64 0, .int .i64 0] 29 (0, 0))
  bM : wr.heap[B]? = some (Go.Proofs.YtimflmgdnfpodaaMp.MapObj (Value.int .i64) Go.Proofs.YtimflmgdnfpodaaFlow.vmark (flow_Parts.keys l0 i).1 (flow_Parts.keys l0 i).2)
  bl : Below w.heap.size w wr
theorem flow_Parts.till_step (n : Nat) (has : Int → Bool) (t : Nat) (h : t < n) : flow_Parts.till n has (n - t) t = if (!has ((t : Int) + 1) && decide ((t : Int) + 1 < (n : Int))) = true then flow_Parts.till n has (n - (t + 1)) (t + 1) else t := by
  rw [show n - t = (n - (t + 1)) + 1 by omega]; rfl
theorem flow_Parts.till_le (n : Nat) (has : Int → Bool) : ∀ (k t : Nat), t < n → t ≤ flow_Parts.till n has k t ∧ flow_Parts.till n has k t < n
  | 0, t, h => ⟨Nat.le_refl _, h⟩
  | k + 1, t, h => by
    unfold flow_Parts.till
    split
    · rename_i hc
      have h2 : (t : Int) + 1 < (n : Int) := by
        have := (Bool.and_eq_true_iff.1 hc).2
        exact of_decide_eq_true this
      have := flow_Parts.till_le n has k (t + 1) (by omega)
      exact ⟨by omega, this.2⟩
    · exact ⟨Nat.le_refl _, h⟩
theorem flow_Parts.from_fuel (l0 : List (S40)) (has : Int → Bool) : ∀ (d k p : Nat), l0.length - p ≤ d → p < l0.length → d ≤ k → flow_Parts.from l0 has k p = flow_Parts.from l0 has d p
  | 0, k, p, h1, h2, h3 => by omega
  | d + 1, k, p, h1, h2, h3 => by
    obtain ⟨k, rfl⟩ : ∃ m, k = m + 1 := ⟨k - 1, by omega⟩
    have ht := flow_Parts.till_le l0.length has (l0.length - p) p h2
    unfold flow_Parts.from
    simp only
    congr 1
    split
    · rename_i hlt
      exact flow_Parts.from_fuel l0 has d k _ (by omega) hlt (by omega)
    · rfl
theorem flow_Parts.from_step (l0 : List (S40)) (has : Int → Bool) (p : Nat) (h : p < l0.length) : flow_Parts.from l0 has (l0.length - p) p =
    flow_Parts.one l0 p (flow_Parts.till l0.length has (l0.length - p) p) :: (if flow_Parts.till l0.length has (l0.length - p) p + 1 < l0.length then flow_Parts.from l0 has (l0.length - (flow_Parts.till l0.length has (l0.length - p) p + 1)) (flow_Parts.till l0.length has (l0.length - p) p + 1) else []) := by
  have ht := flow_Parts.till_le l0.length has (l0.length - p) p h
  have e : flow_Parts.from l0 has (l0.length - p) p = flow_Parts.from l0 has ((l0.length - p - 1) + 1) p := by rw [show l0.length - p - 1 + 1 = l0.length - p by omega]
  rw [e]
  show _ :: _ = _
  congr 1
  split
  · rename_i hlt
    exact flow_Parts.from_fuel l0 has (l0.length - (flow_Parts.till l0.length has (l0.length - p) p + 1)) (l0.length - p - 1) _ (Nat.le_refl _) hlt (by omega)
  · rfl
theorem flow_Parts.from_len (l0 : List (S40)) (has : Int → Bool) : ∀ (k p : Nat), p < l0.length → (flow_Parts.from l0 has k p).length ≤ l0.length - p
  | 0, p, h => by simp [flow_Parts.from]
  | k + 1, p, h => by
    have ht := flow_Parts.till_le l0.length has (l0.length - p) p h
    unfold flow_Parts.from
    simp only [List.length_cons]
    split
    · rename_i hlt
      have := flow_Parts.from_len l0 has k _ hlt
      omega
    · simp; omega
open Go.Proofs.YtimflmgdnfpodaaFlow Go.Proofs.YtimflmgdnfpodaaMp in
/-- At label 0: parts up to place p are told. -/
structure flow_Parts.J (l0 : List (S40)) (w : World) (B : Nat) (p : Nat) (v : Value) (xs : List (S46)) (wr : World) : Prop where
  lt : p < l0.length
  bR : wr.heap[w.heap.size]? = some (.cells #[.int .i64 0, .int .i64 0] 29 (0, 0))
  bM : wr.heap[B]? = some (MapObj (Value.int .i64) vmark (flow_Parts.keys l0 l0.length).1 (flow_Parts.keys l0 l0.length).2)
  bl : Below w.heap.size w wr
  ho : Kd.S k46 46 wr w.heap.size (fun _ => True) v xs
  eq : xs ++ flow_Parts.from l0 (flow_Parts.has l0) (l0.length - p) p = flow_Parts.from l0 (flow_Parts.has l0) l0.length 0
theorem flow_Parts.jumps (x : S40) : flow_jumps.f x.f0 x.f1 x.f2 x.f3 = some (x.f0 == 11 || x.f0 == 12) := by
  unfold flow_jumps.f
  by_cases h : x.f0 = 11
  · rw [if_pos h]; simp [h]
  · rw [if_neg h]; simp [h]
open Go.Proofs.YtimflmgdnfpodaaFlow Go.Proofs.YtimflmgdnfpodaaMp in
theorem flow_Parts.keys_succ (l0 : List (S40)) (i : Nat) (x : S40) (hx : x = rd_T40 l0 (i : Int)) (L1 L2 : List (Int × Int × Nat)) (c1 c2 : Nat)
    (h1 : (L1, c1) = if (x.f0 == 11 || x.f0 == 12) = true then upd ieq x.f1 (i : Int) (flow_Parts.keys l0 i).2 (flow_Parts.keys l0 i).1 else flow_Parts.keys l0 i) (h2 : (L2, c2) = if (x.f0 == 11 || x.f0 == 12 || x.f0 == 28) = true then upd ieq ((i : Int) + 1) (i : Int) c1 L1 else (L1, c1)) : flow_Parts.keys l0 (i + 1) = (L2, c2) := by
  rw [h2]
  show (if ((rd_T40 l0 (i : Int)).f0 == 11 || (rd_T40 l0 (i : Int)).f0 == 12 || (rd_T40 l0 (i : Int)).f0 == 28) = true then _ else _) = _
  simp only [← hx, ← h1]
/-- The frame at the labels. -/
def flow_Parts.fr (A0 : Option Addr) (n c0 r B : Nat) (v nine ten : Value) (u : Nat → Value) : Act := { tmps := #[.slice A0 n c0, undef, .slice none 0 0, .pointer (some ⟨r, 0, none⟩), u 4, .map (some B), u 6, u 7, v, nine, ten, u 11, u 12, u 13, u 14, u 15, u 16, u 17, u 18, u 19, u 20, u 21, u 22, u 23, u 24, u 25, u 26, u 27, u 28, u 29, u 30, u 31, u 32, u 33, u 34, u 35, u 36, u 37, u 38, u 39, u 40, u 41, u 42, u 43, u 44, u 45, u 46, u 47, u 48, u 49, u 50, u 51, u 52, u 53, u 54, u 55, u 56, u 57, u 58, u 59, u 60, u 61, u 62, u 63, u 64, u 65, u 66, u 67, u 68, u 69, u 70, u 71, u 72, u 73, u 74, u 75, u 76, u 77, u 78, u 79, u 80, u 81, u 82, u 83, u 84, u 85, u 86], defers := [] }
def flow_Parts.J0 (A0 : Option Addr) (c0 : Nat) (l0 : List (S40)) (w : World) (a : Act) (wr : World) : Prop :=
  ∃ (B p : Nat) (v : Value) (xs : List (S46)) (u : Nat → Value), Aside0 (flow_Parts.J l0 w B p v xs wr) ∧ a = flow_Parts.fr A0 l0.length c0 w.heap.size B v (.int .i64 (p : Int)) (u 10) u
def flow_Parts.J1 (A0 : Option Addr) (c0 : Nat) (l0 : List (S40)) (w : World) (a : Act) (wr : World) : Prop :=
  ∃ (B p t : Nat) (v : Value) (xs : List (S46)) (u : Nat → Value), Aside0 (flow_Parts.J l0 w B p v xs wr) ∧ Aside0 (p ≤ t ∧ t < l0.length ∧ flow_Parts.till l0.length (flow_Parts.has l0) (l0.length - t) t = flow_Parts.till l0.length (flow_Parts.has l0) (l0.length - p) p) ∧ a = flow_Parts.fr A0 l0.length c0 w.heap.size B v (.int .i64 (p : Int)) (.int .i64 (t : Int)) u
theorem flow_Parts.J0_mk {A0 : Option Addr} {c0 : Nat} {l0 : List (S40)} {w wr : World} {a : Act} {B p : Nat} {v : Value} {xs : List (S46)} (h : flow_Parts.J l0 w B p v xs wr) (ha : a = flow_Parts.fr A0 l0.length c0 w.heap.size B v (.int .i64 (p : Int)) (a.tmps.getD 10 undef) (fun n => a.tmps.getD n undef)) : flow_Parts.J0 A0 c0 l0 w a wr :=
  ⟨B, p, v, xs, fun n => a.tmps.getD n undef, ⟨h⟩, ha⟩
theorem flow_Parts.J1_mk {A0 : Option Addr} {c0 : Nat} {l0 : List (S40)} {w wr : World} {a : Act} {B p t : Nat} {v : Value} {xs : List (S46)} (h : flow_Parts.J l0 w B p v xs wr) (h2 : p ≤ t ∧ t < l0.length ∧ flow_Parts.till l0.length (flow_Parts.has l0) (l0.length - t) t = flow_Parts.till l0.length (flow_Parts.has l0) (l0.length - p) p) (ha : a = flow_Parts.fr A0 l0.length c0 w.heap.size B v (.int .i64 (p : Int)) (.int .i64 (t : Int)) (fun n => a.tmps.getD n undef)) : flow_Parts.J1 A0 c0 l0 w a wr :=
  ⟨B, p, t, v, xs, fun n => a.tmps.getD n undef, ⟨h⟩, ⟨h2⟩, ha⟩
attribute [local go_sem high] eqA29
open Go.Proofs.YtimflmgdnfpodaaFlow Go.Proofs.YtimflmgdnfpodaaRF Go.Proofs.YtimflmgdnfpodaaRG Go.Proofs.YtimflmgdnfpodaaMp in
set_option maxHeartbeats 2000000 in
set_option maxRecDepth 100000 in
theorem flow_Parts.calls_bad (A0 : Option Addr) (c0 : Nat) (l0 : List (S40)) (t1 t2 : Int) (w : World) (hr0 : Kd.C k40 w A0 l0.length l0) (hc0 : l0.length ≤ c0) (hC : flow_Check.f l0 = some (t1, t2)) (hz : (!(t1 == 0) || (!(t2 == 0))) = true) :
    Calls Try.prog 13 #[.slice A0 l0.length c0] w fun e w' => ∃ v0_ : Value, e = .returned (.tuple #[v0_, .agg #[.int .i64 t1, .int .i64 t2]]) ∧ Kd.S k46 46 w' w.heap.size (fun _ => True) v0_ [] ∧ Below w.heap.size w w' := by
  have hu := Try.underlying40
  have huF := Try.underlying29
  have HC := Aside0.mk (flow_Check.calls A0 c0 l0 t1 t2 (w.alloc (.cells #[.int .i64 0, .int .i64 0] 29)) (Kd.C_alloc hr0 _) hc0 hC)
  have hz0 := hz
  clear hr0 hC
  go_enter Try.func13, Try.ntmps13
  go_wp2
  go_step3
  go_wp2_with fail
  refine HC.out.mono ?_
  rintro e w1 ⟨rfl, hb⟩
  have HB := Aside0.mk hb
  clear hb HC
  go_wp2_with fail
  obtain ⟨W, hW⟩ : ∃ W, W = w1.alloc (.cells #[.int .i64 t1, .int .i64 t2] 29) := ⟨_, rfl⟩
  have hB0 : Below w.heap.size w w1 := ((Below.refl _ _).alloc (Nat.le_refl _) _).trans (HB.out.mono (by simp))
  have hBW : Below w.heap.size w W := by rw [hW]; exact hB0.alloc hB0.size _
  have bR1 : w1.heap[w.heap.size]? = some (.cells #[.int .i64 0, .int .i64 0] 29 (0, 0)) := (HB.out.block _ (by simp)).trans (at_new w _ rfl)
  have bR : W.heap[w.heap.size]? = some (.cells #[.int .i64 0, .int .i64 0] 29 (0, 0)) := by rw [hW]; exact at_alloc bR1 _
  have bF : W.heap[w1.heap.size]? = some (.cells #[.int .i64 t1, .int .i64 t2] 29 (0, 0)) := by rw [hW]; exact at_new _ _ rfl
  rw [← hW]
  have BF := Aside0.mk bF
  have BR := Aside0.mk bR
  have HBW := Aside0.mk hBW
  clear hW hB0 hBW bR1 bR bF HB hz hz0
  refine rg_region (N := 87) 2 (fun A B => B = A) (by kernel_rfl) (by kernel_rfl) rfl (fun _ => rfl) (fun h1 h2 => h2.trans h1) ?_
  rw [show List.range 2 = [0, 1] from rfl]
  refine rg_val (.agg #[.int .i64 t1, .int .i64 t2]) (fun _ => rfl) rfl (fun _ _ _ _ => wanted_none rfl) ?_ ?_
  · intro a w' hr hs
    have h5 := hs.out 4 (by kernel_rfl)
    have bF := at_drew BF.out
    rw [← hr] at bF
    have c0 := cell_at bF 0
    have c1 := cell_at bF 1
    simp only [List.getElem?_toArray, List.getElem?_cons_zero, List.getElem?_cons_succ] at c0 c1
    clear hr bF
    go_simp
  refine rg_val (.slice none 0 0) (fun _ => rfl) rfl (fun _ _ _ _ => wanted_none rfl) ?_ ?_
  · intro a w' hr hs
    go_simp
  intro vs w5 hr hE
  rw [show List.range 2 = [0, 1] from rfl]
  simp only [List.mem_cons, List.not_mem_nil, or_false, forall_eq_or_imp, forall_eq] at hE
  obtain ⟨g1, g0⟩ := hE
  simp only [putL, slotOf, List.getElem?_toArray, List.getElem?_cons_succ, List.getElem?_cons_zero, Option.bind_some, Act.put, List.setIfInBounds_toArray, List.set_cons_succ, List.set_cons_zero, g1, g0]
  have bR := at_drew BR.out
  rw [← hr] at bR
  have c0 := cell_at bR 0
  have c1 := cell_at bR 1
  have f0 := free_at bR 0
  have f1 := free_at bR 1
  simp only [List.getElem?_toArray, List.getElem?_cons_zero, List.getElem?_cons_succ] at c0 c1
  have HBR := Aside0.mk bR
  have HR_ := Aside0.mk hr
  clear hr bR
  refine tail_skip (i := 2) (r := []) (w' := (w5.setCell ⟨w.heap.size, 0, none⟩ (.int .i64 t1)).setCell ⟨w.heap.size, 1, none⟩ (.int .i64 t2)) rfl (wanted_none rfl) (by go_simp) (tail_end ?_)
  have bE := blk_put (blk_put HBR.out 0 (.int .i64 t1) rfl) 1 (.int .i64 t2) rfl
  have hBE : Below w.heap.size w ((w5.setCell ⟨w.heap.size, 0, none⟩ (.int .i64 t1)).setCell ⟨w.heap.size, 1, none⟩ (.int .i64 t2)) := by
    rw [HR_.out]
    exact (((Mv.of_below HBW.out).drew.setCell (p := ⟨w.heap.size, 0, none⟩) (.inl (Nat.le_refl _)) _).setCell (p := ⟨w.heap.size, 1, none⟩) (.inl (Nat.le_refl _)) _).below (Nat.le_refl _) (fun _ h => h)
  have HBE := Aside0.mk hBE
  have BE := Aside0.mk bE
  obtain ⟨W6, hW6⟩ : ∃ W6, W6 = (w5.setCell ⟨w.heap.size, 0, none⟩ (.int .i64 t1)).setCell ⟨w.heap.size, 1, none⟩ (.int .i64 t2) := ⟨_, rfl⟩
  rw [← hW6] at BE HBE ⊢
  clear hW6 bE hBE HBR c0 c1 f0 f1 g0 g1 HR_ BF BR HBW
  go_wp2_with fail
  rw [Exit.noGoto_ret]
  refine bodyPost_ret (results_tc rfl _ _ _ _ _ _ _ rfl BE.out huF rfl (by kernel_rfl)) rfl ?_
  exact ⟨.slice none 0 0, rfl, Kd.S_nil _ _ _ _ _, HBE.out⟩
open Go.Proofs.YtimflmgdnfpodaaFlow Go.Proofs.YtimflmgdnfpodaaRF Go.Proofs.YtimflmgdnfpodaaRG Go.Proofs.YtimflmgdnfpodaaMp in
set_option maxHeartbeats 2000000 in
set_option maxRecDepth 100000 in
theorem flow_Parts.calls_ok (A0 : Option Addr) (c0 : Nat) (l0 : List (S40)) (w : World) (hr0 : Kd.C k40 w A0 l0.length l0) (hc0 : l0.length ≤ c0) (hC : flow_Check.f l0 = some (0, 0)) :
    Calls Try.prog 13 #[.slice A0 l0.length c0] w fun e w' => ∃ v0_ : Value, e = .returned (.tuple #[v0_, .agg #[.int .i64 0, .int .i64 0]]) ∧ Kd.S k46 46 w' w.heap.size (fun _ => True) v0_ (flow_Parts.from l0 (flow_Parts.has l0) l0.length 0) ∧ Below w.heap.size w w' := by
  have hu := Try.underlying40
  have huF := Try.underlying29
  have HC := Aside0.mk (flow_Check.calls A0 c0 l0 0 0 (w.alloc (.cells #[.int .i64 0, .int .i64 0] 29)) (Kd.C_alloc hr0 _) hc0 hC)
  obtain ⟨hpos, hlen, _⟩ := flow_Parts.ok l0 hC
  have HR0 := Aside0.mk hr0
  clear hr0 hC
  go_enter Try.func13, Try.ntmps13
  go_wp2
  refine wp_scope_two  (flow_Parts.J0 A0 c0 l0 w) (flow_Parts.J1 A0 c0 l0 w)
    (fun a _ => 2 * (l0.length - (intOf (a.tmps.getD 9 undef)).toNat) + 1) (fun a _ => 2 * (l0.length - (intOf (a.tmps.getD 10 undef)).toNat)) rfl rfl ?first ?pass0 ?pass1
  case first =>
    intro TAIL0
    have TAIL := Aside0.mk TAIL0
    clear TAIL0
    go_wp2_with fail
    refine HC.out.mono ?_
    rintro e w1 ⟨rfl, hb⟩
    have hB0 : Below w.heap.size w w1 := ((Below.refl _ _).alloc (Nat.le_refl _) _).trans (hb.mono (by simp))
    obtain ⟨W0, hW0⟩ : ∃ W0, W0 = w1.alloc (.cells #[.int .i64 0, .int .i64 0] 29) := ⟨_, rfl⟩
    obtain ⟨B, hB⟩ : ∃ B, B = W0.heap.size := ⟨_, rfl⟩
    obtain ⟨W, hW⟩ : ∃ W, W = W0.alloc (.map #[] 0) := ⟨_, rfl⟩
    have hmm : (Instr.makeMap 58 none).run Try.prog W0 = .ok (.map (some B)) W := by rw [hW, hB]; rfl
    have hBW0 : Below w.heap.size w W0 := by rw [hW0]; exact hB0.alloc hB0.size _
    have bR1 : w1.heap[w.heap.size]? = some (.cells #[.int .i64 0, .int .i64 0] 29 (0, 0)) := (hb.block _ (by simp)).trans (at_new w _ rfl)
    have HI0 : Aside0 (flow_Parts.I l0 w B 0 W) := ⟨⟨by rw [hW, hW0]; exact at_alloc (at_alloc bR1 _) _, by rw [hW]; exact at_new _ _ hB, by rw [hW]; exact hBW0.alloc hBW0.size _⟩⟩
    have HBB := Aside0.mk (show w.heap.size < B by rw [hB, hW0]; have := hB0.size; simp; omega)
    have HW0 := Aside0.mk hW0
    clear hb hB0 hB hW hBW0 bR1 HC
    go_wp2_with (rw [← HW0.out])
    rw [hmm]
    clear hmm HW0 hW0
    go_wp2
    go_loopw [22] (fun v22 wr => ∃ i : Nat, i ≤ l0.length ∧ v22 = .int .i64 (i : Int) ∧ Aside0 (flow_Parts.I l0 w B i wr)) (fun v22 _ => l0.length - (intOf v22).toNat)
    case atStart => exact ⟨0, Nat.zero_le _, rfl, HI0⟩
    case round =>
      clear HI0
      obtain ⟨i, hi, rfl, HI⟩ := hrel
      by_cases hlt : i < l0.length
      · obtain ⟨ad, hA, x0, x1, x2, x3⟩ := at_T40 (Kd.C_below HR0.out HI.out.bl) (i : Int) (by omega) (by omega)
        rw [Int.toNat_natCast] at x0 x1 x2 x3
        subst hA
        obtain ⟨x, hx⟩ : ∃ x, x = rd_T40 l0 (i : Int) := ⟨_, rfl⟩
        rw [← hx] at x0 x1 x2 x3
        have hkey := flow_Parts.keys_succ l0 i x hx
        obtain ⟨L0, hL0⟩ : ∃ L, L = (flow_Parts.keys l0 i).1 := ⟨_, rfl⟩
        obtain ⟨k0, hk0⟩ : ∃ k, k = (flow_Parts.keys l0 i).2 := ⟨_, rfl⟩
        rw [← hL0, ← hk0, show flow_Parts.keys l0 i = (L0, k0) by rw [hL0, hk0]] at hkey
        have hbM := HI.out.bM
        rw [← hL0, ← hk0] at hbM
        obtain ⟨Wx, hWx⟩ : ∃ W, W = wr.alloc (.cells #[.int .i64 x.f0, .int .i64 x.f1, .int .i64 x.f2, .int .i64 x.f3] 40) := ⟨_, rfl⟩
        have hj := Aside0.mk (flow_Parts.jumps x)
        have hbx : Wx.heap[wr.heap.size]? = some (.cells #[.int .i64 x.f0, .int .i64 x.f1, .int .i64 x.f2, .int .i64 x.f3] 40 (0, 0)) := by rw [hWx]; exact at_new _ _ rfl
        have hbW : Below wr.heap.size wr Wx := by rw [hWx]; exact (Below.refl _ _).alloc (Nat.le_refl _) _
        have HKEY := Aside0.mk hkey
        have HBM := Aside0.mk hbM
        have HX := Aside0.mk (And.intro hbx hbW)
        have HWX := Aside0.mk hWx
        clear hkey hL0 hk0 hbM hbx hbW hx
        have c7_0 := cell_at HX.out.1 0
        have c7_1 := cell_at HX.out.1 1
        have c7_2 := cell_at HX.out.1 2
        have c7_3 := cell_at HX.out.1 3
        simp only [List.getElem?_toArray, List.getElem?_cons_zero, List.getElem?_cons_succ] at c7_0 c7_1 c7_2 c7_3
        rw [hWx] at c7_0 c7_1 c7_2 c7_3
        clear hWx
        go_wp2_with fail
        rw [← HWX.out]
        refine (flow_jumps.calls _ _ _ _ _ _ hj.out).mono ?_
        rintro e w2 ⟨rfl, hb2⟩
        have hbx2 := (hb2.block _ (lt_of_at HX.out.1)).trans HX.out.1
        have hbl2 : Below w.heap.size w w2 := HI.out.bl.trans ((HX.out.2.trans (hb2.mono HX.out.2.size)).mono HI.out.bl.size)
        have hbR2 := ((HX.out.2.trans (hb2.mono HX.out.2.size)).block _ (lt_of_at HI.out.bR)).trans HI.out.bR
        have hbM2 := ((HX.out.2.trans (hb2.mono HX.out.2.size)).block _ (lt_of_at HBM.out)).trans HBM.out
        have hne : wr.heap.size ≠ B := fun e => by have := lt_of_at HBM.out; omega
        clear c7_0 c7_1 c7_2 c7_3 hb2
        have HBX2 := Aside0.mk hbx2
        have HN2 := Aside0.mk (And.intro hbl2 (And.intro hbR2 (And.intro hbM2 hne)))
        clear hbl2 hbR2 hbM2 hne
        have c7_0 := cell_at hbx2 0
        have c7_1 := cell_at hbx2 1
        have c7_2 := cell_at hbx2 2
        have c7_3 := cell_at hbx2 3
        simp only [List.getElem?_toArray, List.getElem?_cons_zero, List.getElem?_cons_succ] at c7_0 c7_1 c7_2 c7_3
        clear hbx2
        by_cases j : (x.f0 == 11 || x.f0 == 12) = true
        · rw [j]
          have hu2 := update_run (P := Try.prog) (T := 58) (venc := vmark) int_law Try.underlying58 HN2.out.2.2.1 x.f1 (i : Int)
          obtain ⟨⟨L1, k1⟩, hL1⟩ : ∃ L, L = upd ieq x.f1 (i : Int) k0 L0 := ⟨_, rfl⟩
          rw [← hL1] at hu2
          obtain ⟨w3, hw3⟩ : ∃ w3, w3 = w2.putObj B (MapObj (Value.int .i64) vmark L1 k1) := ⟨_, rfl⟩
          simp only [vmark] at hu2
          have hu3 : (Instr.mapUpdate 58 (.map (some B)) (.int .i64 x.f1) (.agg #[.int .i64 (i : Int)])).run Try.prog w2 = .ok () w3 := by rw [hw3]; exact hu2
          have HL1 := Aside0.mk hL1
          have HBX3 := Aside0.mk (show w3.heap[wr.heap.size]? = some (.cells #[.int .i64 x.f0, .int .i64 x.f1, .int .i64 x.f2, .int .i64 x.f3] 40 (0, 0)) by rw [hw3]; exact at_put HBX2.out HN2.out.2.2.2 _)
          have hbm3 : w3.heap[B]? = some (MapObj (Value.int .i64) vmark L1 k1) := by rw [hw3]; exact World.putObj_heap_same (lt_of_at HN2.out.2.2.1)
          have hbl3 : Below w.heap.size w w3 := by rw [hw3]; exact below_put HN2.out.1 (Nat.le_of_lt HBB.out) _
          have hbr3 : w3.heap[w.heap.size]? = some (.cells #[.int .i64 0, .int .i64 0] 29 (0, 0)) := by rw [hw3]; exact at_put HN2.out.2.1 (by have := HBB.out; omega) _
          have HN3 := Aside0.mk (And.intro hbl3 (And.intro hbr3 (And.intro hbm3 HN2.out.2.2.2)))
          clear hu2 hL1 hw3 hbm3 hbl3 hbr3 HBX2 HN2
          have d7_0 := cell_at HBX3.out 0
          have d7_1 := cell_at HBX3.out 1
          have d7_2 := cell_at HBX3.out 2
          have d7_3 := cell_at HBX3.out 3
          simp only [List.getElem?_toArray, List.getElem?_cons_zero, List.getElem?_cons_succ] at d7_0 d7_1 d7_2 d7_3
          go_wp2_with fail
          clear c7_0 c7_1 c7_2 c7_3 hu3 d7_0 d7_1 d7_2 d7_3
          refine (flow_jumps.calls _ _ _ _ _ _ hj.out).mono ?_
          rintro e w4 ⟨rfl, hb4⟩
          rw [j]
          have hbl4 : Below w.heap.size w w4 := HN3.out.1.trans (hb4.mono HN3.out.1.size)
          have hbR4 := (hb4.block _ (lt_of_at HN3.out.2.1)).trans HN3.out.2.1
          have hbM4 := (hb4.block _ (lt_of_at HN3.out.2.2.1)).trans HN3.out.2.2.1
          have hu4 := update_run (P := Try.prog) (T := 58) (venc := vmark) int_law Try.underlying58 hbM4 ((i : Int) + 1) (i : Int)
          obtain ⟨⟨L2, k2⟩, hL2⟩ : ∃ L, L = upd ieq ((i : Int) + 1) (i : Int) k1 L1 := ⟨_, rfl⟩
          rw [← hL2] at hu4
          obtain ⟨w5, hw5⟩ : ∃ w5, w5 = w4.putObj B (MapObj (Value.int .i64) vmark L2 k2) := ⟨_, rfl⟩
          simp only [vmark] at hu4
          have hu5 : (Instr.mapUpdate 58 (.map (some B)) (.int .i64 ((i : Int) + 1)) (.agg #[.int .i64 (i : Int)])).run Try.prog w4 = .ok () w5 := by rw [hw5]; exact hu4
          have hkk : flow_Parts.keys l0 (i + 1) = (L2, k2) := HKEY.out L1 L2 k1 k2 (by rw [if_pos j, HL1.out]) (by rw [j, Bool.true_or, if_pos rfl, hL2])
          have NEW := Aside0.mk (show flow_Parts.I l0 w B (i + 1) w5 from ⟨by rw [hw5]; exact at_put hbR4 (by have := HBB.out; omega) _, by rw [hkk, hw5]; exact World.putObj_heap_same (lt_of_at hbM4), by rw [hw5]; exact below_put hbl4 (Nat.le_of_lt HBB.out) _⟩)
          clear hbl4 hbR4 hbM4 hu4 hL2 hw5 hkk hb4 HN3 HBX3 HL1 HKEY HBM HX HI
          go_wp2_with fail
          go_roundw
          case rel => exact ⟨i + 1, by omega, by go_num, NEW⟩
          case measure => simp [intOf]; omega
        · have j' : (x.f0 == 11 || x.f0 == 12) = false := by simpa using j
          rw [j']
          clear j
          go_wp2_with fail
          clear c7_0 c7_1 c7_2 c7_3
          refine (flow_jumps.calls _ _ _ _ _ _ hj.out).mono ?_
          rintro e w4 ⟨rfl, hb4⟩
          rw [j']
          have hbl4 : Below w.heap.size w w4 := HN2.out.1.trans (hb4.mono HN2.out.1.size)
          have hbR4 := (hb4.block _ (lt_of_at HN2.out.2.1)).trans HN2.out.2.1
          have hbM4 := (hb4.block _ (lt_of_at HN2.out.2.2.1)).trans HN2.out.2.2.1
          have hbx4 := (hb4.block _ (lt_of_at HBX2.out)).trans HBX2.out
          have c7_0 := cell_at hbx4 0
          simp only [List.getElem?_toArray, List.getElem?_cons_zero, List.getElem?_cons_succ] at c7_0
          by_cases r : (x.f0 == 28) = true
          · have hu4 := update_run (P := Try.prog) (T := 58) (venc := vmark) int_law Try.underlying58 hbM4 ((i : Int) + 1) (i : Int)
            obtain ⟨⟨L2, k2⟩, hL2⟩ : ∃ L, L = upd ieq ((i : Int) + 1) (i : Int) k0 L0 := ⟨_, rfl⟩
            rw [← hL2] at hu4
            obtain ⟨w5, hw5⟩ : ∃ w5, w5 = w4.putObj B (MapObj (Value.int .i64) vmark L2 k2) := ⟨_, rfl⟩
            simp only [vmark] at hu4
            have hu5 : (Instr.mapUpdate 58 (.map (some B)) (.int .i64 ((i : Int) + 1)) (.agg #[.int .i64 (i : Int)])).run Try.prog w4 = .ok () w5 := by rw [hw5]; exact hu4
            have hkk : flow_Parts.keys l0 (i + 1) = (L2, k2) := HKEY.out L0 L2 k0 k2 (by rw [j', if_neg (by simp)]) (by rw [j', r, Bool.false_or, if_pos rfl, hL2])
            have NEW := Aside0.mk (show flow_Parts.I l0 w B (i + 1) w5 from ⟨by rw [hw5]; exact at_put hbR4 (by have := HBB.out; omega) _, by rw [hkk, hw5]; exact World.putObj_heap_same (lt_of_at hbM4), by rw [hw5]; exact below_put hbl4 (Nat.le_of_lt HBB.out) _⟩)
            clear hbl4 hbR4 hbM4 hu4 hL2 hw5 hkk hb4 HN2 HBX2 HKEY HBM HX HI hbx4
            go_wp2_with fail
            go_roundw
            case rel => exact ⟨i + 1, by omega, by go_num, NEW⟩
            case measure => simp [intOf]; omega
          · have r' : (x.f0 == 28) = false := by simpa using r
            have hkk : flow_Parts.keys l0 (i + 1) = (L0, k0) := HKEY.out L0 L0 k0 k0 (by rw [j', if_neg (by simp)]) (by rw [j', r', Bool.false_or, if_neg (by simp)])
            have NEW := Aside0.mk (show flow_Parts.I l0 w B (i + 1) w4 from ⟨hbR4, by rw [hkk]; exact hbM4, hbl4⟩)
            clear hbl4 hbR4 hbM4 hkk hb4 HN2 HBX2 HKEY HBM HX HI hbx4 r
            go_wp2_with fail
            go_roundw
            case rel => exact ⟨i + 1, by omega, by go_num, NEW⟩
            case measure => simp [intOf]; omega
      · obtain rfl : i = l0.length := by omega
        clear hi hlt
        have hJ : flow_Parts.J l0 w B 0 (.slice none 0 0) [] wr := ⟨hpos, HI.out.bR, HI.out.bM, HI.out.bl, Kd.S_nil _ _ _ _ _, by simp⟩
        have HJ := Aside0.mk hJ
        clear hJ HI
        go_wp2
        rename_i hK
        exact wp_label (hK _ _ (TAIL.out _ _ (flow_Parts.J0_mk HJ.out rfl)))
  case pass0 =>
    rintro a wr ⟨B, p, v, xs, u, HJ, rfl⟩
    unfold flow_Parts.fr
    go_wp2
    refine ⟨flow_Parts.J1_mk HJ.out ⟨Nat.le_refl _, HJ.out.lt, rfl⟩ rfl, ?_⟩
    show 2 * (l0.length - (p : Int).toNat) < 2 * (l0.length - (p : Int).toNat) + 1
    omega
  case pass1 =>
    rintro a wr ⟨B, p, t, v, xs, u, HJ, HT, rfl⟩
    obtain ⟨hpt, htl, htill⟩ := HT.out
    have hts := flow_Parts.till_step l0.length (flow_Parts.has l0) t htl
    obtain ⟨b, hb⟩ : ∃ b, b = flow_Parts.has l0 ((t : Int) + 1) := ⟨_, rfl⟩
    obtain ⟨mk, hlk⟩ := lookup_mark HJ.out.bM ((t : Int) + 1)
    rw [show (findIdx ieq ((t : Int) + 1) (flow_Parts.keys l0 l0.length).1 0).isSome = b from hb.symm] at hlk
    obtain ⟨ad, hA, x0, x1, x2, x3⟩ := at_T40 (Kd.C_alloc (Kd.C_below HR0.out HJ.out.bl) (.cells #[.int .i64 mk] 57)) (t : Int) (by omega) (by omega)
    rw [Int.toNat_natCast] at x0 x1 x2 x3
    subst hA
    obtain ⟨x, hx⟩ : ∃ x, x = rd_T40 l0 (t : Int) := ⟨_, rfl⟩
    rw [← hx] at x0 x1 x2 x3
    rw [← hb] at hts
    have HX := Aside0.mk hx
    have HTS := Aside0.mk hts
    have HTILL := Aside0.mk htill
    clear hts hx hb htill hc0
    unfold flow_Parts.fr
    by_cases hgo : (!b && decide ((t : Int) + 1 < (l0.length : Int))) = true
    · have hb0 : b = false := by cases b; rfl; simp at hgo
      subst hb0
      have hlt : (t : Int) + 1 < (l0.length : Int) := by
        have := (Bool.and_eq_true_iff.1 hgo).2
        exact of_decide_eq_true this
      have hd : decide ((t : Int) + 1 < (l0.length : Int)) = true := decide_eq_true hlt
      have hts2 := HTS.out
      rw [if_pos hgo] at hts2
      have HJ2 : Aside0 (flow_Parts.J l0 w B p v xs (wr.alloc (.cells #[.int .i64 mk] 57))) := ⟨⟨HJ.out.lt, at_alloc HJ.out.bR _, at_alloc HJ.out.bM _, HJ.out.bl.alloc HJ.out.bl.size _, Kd.S_alloc HJ.out.ho _, HJ.out.eq⟩⟩
      have HT2 := Aside0.mk (show p ≤ t + 1 ∧ t + 1 < l0.length ∧ flow_Parts.till l0.length (flow_Parts.has l0) (l0.length - (t + 1)) (t + 1) = flow_Parts.till l0.length (flow_Parts.has l0) (l0.length - p) p from ⟨by omega, by omega, hts2.symm.trans HTILL.out⟩)
      clear hgo hts2 HTS HTILL HX x0 x1 x2 x3 HJ HT
      go_wp2
      refine wp_goto (.inr ⟨rfl, flow_Parts.J1_mk (t := t + 1) HJ2.out HT2.out rfl, ?_⟩)
      show 2 * (l0.length - ((t : Int) + 1).toNat) < 2 * (l0.length - (t : Int).toNat)
      omega
    · have hends : flow_Parts.till l0.length (flow_Parts.has l0) (l0.length - p) p = t := by
        have := HTS.out
        rw [if_neg hgo] at this
        rw [← HTILL.out, this]
      have hfrom := flow_Parts.from_step l0 (flow_Parts.has l0) p HJ.out.lt
      rw [hends] at hfrom
      have hone : flow_Parts.one l0 p t = ⟨(p : Int), (t : Int), uniq (goesL x.f0 x.f1 (t : Int))⟩ := by rw [HX.out]; rfl
      rw [hone] at hfrom
      have HFROM := Aside0.mk hfrom
      have hgl : (goesL x.f0 x.f1 (t : Int)).length < 4398046511104 := by
        unfold goesL
        split
        · simp
        · split
          · simp
          · split <;> simp
      obtain ⟨L, hL⟩ : ∃ L, L = goesL x.f0 x.f1 (t : Int) := ⟨_, rfl⟩
      rw [← hL] at hgl
      have HGL := Aside0.mk hgl
      have HL := Aside0.mk hL
      have HPT := Aside0.mk hpt
      clear hends hfrom hone hgl hL HTS HTILL HX hpt
      have hw2 : Below wr.heap.size wr (wr.alloc (.cells #[.int .i64 mk] 57)) := (Below.refl _ _).alloc (Nat.le_refl _) _
      have HW2 := Aside0.mk hw2
      clear hw2
      have key : b = true ∨ (b = false ∧ decide ((t : Int) + 1 < (l0.length : Int)) = false) := by
        cases b
        · right; exact ⟨rfl, by simpa using hgo⟩
        · left; rfl
      clear hgo
      rcases key with rfl | ⟨rfl, hd⟩
      all_goals
        go_wp2_with fail
        obtain ⟨W2, hW2⟩ : ∃ W2, W2 = wr.alloc (.cells #[.int .i64 mk] 57) := ⟨_, rfl⟩
        rw [← hW2] at HW2 x0 x1 x2 x3 ⊢
        clear hW2 x0 x1 x2 x3 hlk
        refine (goes_calls _ _ _ _ _ _).mono ?_
        rintro e w3 ⟨⟨g, A, c, rfl, hg0, hg, hR⟩, hb3⟩
        rw [← HL.out] at hg hR
        have HC := Aside0.mk (CollectGoes_calls L HGL.out W2 w3 g A c hg0 hg hR hb3)
        clear hg0 hg hR hb3
        go_wp2_with fail
        refine HC.out.mono ?_
        rintro e w4 ⟨v4, rfl, hR4, hb4⟩
        clear HC
        have hb14 : Below wr.heap.size wr w4 := HW2.out.trans (hb4.mono HW2.out.size)
        have hws := HJ.out.bl.size
        have hbl4 : Below w.heap.size w w4 := HJ.out.bl.trans (hb14.mono hws)
        have hbR4 := (hb14.block _ (lt_of_at HJ.out.bR)).trans HJ.out.bR
        have hbM4 := (hb14.block _ (lt_of_at HJ.out.bM)).trans HJ.out.bM
        have hho4 := Kd.S_below HJ.out.ho hb14
        obtain ⟨A4, c4, hv4⟩ := Kd.R_slice hR4
        subst hv4
        have hR4' := Kd.R_lower (base' := w.heap.size) hR4 (by have := HW2.out.size; omega)
        have hxl : xs.length + 1 ≤ 20000 := by
          have h1 := congrArg List.length HJ.out.eq
          have h2 := flow_Parts.from_len l0 (flow_Parts.has l0) l0.length 0 hpos
          have h3 := flow_Parts.from_step l0 (flow_Parts.has l0) p HJ.out.lt
          have h4 := congrArg List.length h3
          simp only [List.length_append, List.length_cons] at h1 h4
          omega
        have HXL := Aside0.mk hxl
        have HO4 := Aside0.mk hho4
        have HO4E := Aside0.mk (Kd.S_elder' (v := .slice A4 (uniq L).length c4) HJ.out.ho (fun k hk => by have := Kd.R_base hR4 k hk; have := HW2.out.size; omega) hb14)
        have HR4 := Aside0.mk hR4'
        have HN4 := Aside0.mk (And.intro hbl4 (And.intro hbR4 hbM4))
        clear hb14 hws hbl4 hbR4 hbM4 hho4 hR4 hR4' hb4 hxl HW2
        (try clear hd)
        by_cases ht1 : (t : Int) + 1 < (l0.length : Int)
        · have dlt : decide ((t : Int) + 1 < (l0.length : Int)) = true := decide_eq_true ht1
          go_wp2_with ((with_reducible refine gate_builtin (b := .append) (xs := #[.tmp 66, .tmp 77]) rfl ?_); at_builtin; refine Kd.S_append k46 (w0 := w) w.heap.size rfl (.tmp 66) (.tmp 77) 32 46 (.agg #[(.int .i64 0), (.int .i64 0), (.slice none 0 0)]) 40 rfl Try.underlying32 info46 rfl (by decide) (by omega) v xs (⟨(p : Int), (t : Int), uniq L⟩ : S46) [.int .i64 (p : Int), .int .i64 (t : Int), .slice A4 (uniq L).length c4] (fun _ => True) (fun k_ => some k_ = (Value.slice A4 (uniq L).length c4).ownBlock) rfl rfl ?aP (fun k_ hk_ => ((Kd.R_mono (ok' := fun k_ => True ∧ some k_ ≠ (v : Value).ownBlock) (Kd.R_apart' HR4.out (Kd.S_typed HO4.out) (by decide)) (fun k_ hk => ⟨trivial, hk.2⟩))).1 k_ hk_.symm) (fun _ _ => trivial) HO4E.out HN4.out.1 HN4.out.1.size (by have := HXL.out; omega) ?_; (case aP => exact k46_mkM _ _ _ (⟨(p : Int), (t : Int), uniq L⟩ : S46) (Kd.R_mono (Kd.R_tight rfl (Kd.R_mono (ok' := fun k_ => True ∧ some k_ ≠ (v : Value).ownBlock) (Kd.R_apart' HR4.out (Kd.S_typed HO4.out) (by decide)) (fun k_ hk => ⟨trivial, hk.2⟩))) (fun _ h_ => h_))); intro v5 w5 ho5 hb5 hg5 hat5; have hbR5 := (hg5.block _ (lt_of_at HN4.out.2.1) (Kd.S_ne HO4.out HN4.out.2.1 (by decide))).trans HN4.out.2.1; have hbM5 := (hg5.block _ (lt_of_at HN4.out.2.2) (fun e => by obtain ⟨cs, h⟩ := Kd.S_typed HO4.out B e.symm; rw [HN4.out.2.2] at h; cases h)).trans HN4.out.2.2; have HO5 := Aside0.mk ho5; have HN5 := Aside0.mk (And.intro hb5 (And.intro hbR5 hbM5)); have c0 := cell_at hbR5 0; have c1 := cell_at hbR5 1; have f0 := free_at hbR5 0; have f1 := free_at hbR5 1; simp only [List.getElem?_toArray, List.getElem?_cons_zero, List.getElem?_cons_succ] at c0 c1; clear ho5 hb5 hg5 hat5 hbR5 hbM5)
          have hf := HFROM.out
          rw [← HL.out, if_pos (by omega)] at hf
          refine wp_goto (.inl ⟨rfl, flow_Parts.J0_mk (p := t + 1) (xs := xs ++ [⟨(p : Int), (t : Int), uniq L⟩]) ⟨by omega, HN5.out.2.1, HN5.out.2.2, HN5.out.1, HO5.out, ?_⟩ rfl, ?_⟩)
          · rw [List.append_assoc, List.singleton_append, ← hf]; exact HJ.out.eq
          · show 2 * (l0.length - ((t : Int) + 1).toNat) + 1 < 2 * (l0.length - (t : Int).toNat)
            omega
        · have dlt : decide ((t : Int) + 1 < (l0.length : Int)) = false := decide_eq_false ht1
          go_wp2_with ((with_reducible refine gate_builtin (b := .append) (xs := #[.tmp 66, .tmp 77]) rfl ?_); at_builtin; refine Kd.S_append k46 (w0 := w) w.heap.size rfl (.tmp 66) (.tmp 77) 32 46 (.agg #[(.int .i64 0), (.int .i64 0), (.slice none 0 0)]) 40 rfl Try.underlying32 info46 rfl (by decide) (by omega) v xs (⟨(p : Int), (t : Int), uniq L⟩ : S46) [.int .i64 (p : Int), .int .i64 (t : Int), .slice A4 (uniq L).length c4] (fun _ => True) (fun k_ => some k_ = (Value.slice A4 (uniq L).length c4).ownBlock) rfl rfl ?aP (fun k_ hk_ => ((Kd.R_mono (ok' := fun k_ => True ∧ some k_ ≠ (v : Value).ownBlock) (Kd.R_apart' HR4.out (Kd.S_typed HO4.out) (by decide)) (fun k_ hk => ⟨trivial, hk.2⟩))).1 k_ hk_.symm) (fun _ _ => trivial) HO4E.out HN4.out.1 HN4.out.1.size (by have := HXL.out; omega) ?_; (case aP => exact k46_mkM _ _ _ (⟨(p : Int), (t : Int), uniq L⟩ : S46) (Kd.R_mono (Kd.R_tight rfl (Kd.R_mono (ok' := fun k_ => True ∧ some k_ ≠ (v : Value).ownBlock) (Kd.R_apart' HR4.out (Kd.S_typed HO4.out) (by decide)) (fun k_ hk => ⟨trivial, hk.2⟩))) (fun _ h_ => h_))); intro v5 w5 ho5 hb5 hg5 hat5; have hbR5 := (hg5.block _ (lt_of_at HN4.out.2.1) (Kd.S_ne HO4.out HN4.out.2.1 (by decide))).trans HN4.out.2.1; have hbM5 := (hg5.block _ (lt_of_at HN4.out.2.2) (fun e => by obtain ⟨cs, h⟩ := Kd.S_typed HO4.out B e.symm; rw [HN4.out.2.2] at h; cases h)).trans HN4.out.2.2; have HO5 := Aside0.mk ho5; have HN5 := Aside0.mk (And.intro hb5 (And.intro hbR5 hbM5)); have c0 := cell_at hbR5 0; have c1 := cell_at hbR5 1; have f0 := free_at hbR5 0; have f1 := free_at hbR5 1; simp only [List.getElem?_toArray, List.getElem?_cons_zero, List.getElem?_cons_succ] at c0 c1; clear ho5 hb5 hg5 hat5 hbR5 hbM5)
          have hf := HFROM.out
          rw [← HL.out, if_neg (by omega)] at hf
          have heq := HJ.out.eq
          rw [hf] at heq
          have hm : Mv (fun k => k = w.heap.size) w5 ((w5.setCell ⟨w.heap.size, 0, none⟩ (.int .i64 0)).setCell ⟨w.heap.size, 1, none⟩ (.int .i64 0)) := ((Mv.refl (fun k => k = w.heap.size) w5).setCell (p := ⟨w.heap.size, 0, none⟩) (.inl rfl) _).setCell (p := ⟨w.heap.size, 1, none⟩) (.inl rfl) _
          have hbE := blk_put (blk_put HN5.out.2.1 0 (.int .i64 0) rfl) 1 (.int .i64 0) rfl
          simp only [jumps2]
          change bodyPost Try.prog Try.f13 _ Exit.ret _ _
          refine bodyPost_ret (results_tc rfl _ _ _ _ _ _ _ rfl hbE huF rfl (by kernel_rfl)) rfl ?_
          refine ⟨v5, rfl, ?_, HN5.out.1.trans (hm.below HN5.out.1.size (fun k h => by omega))⟩
          rw [← heq]
          exact Kd.S_set (Kd.S_set HO5.out HN5.out.2.1 (by decide) 0 _) (blk_put HN5.out.2.1 0 (.int .i64 0) rfl) (by decide) 1 _
theorem flow_Parts.calls (A0 : Option Addr) (c0 : Nat) (l0 : List (S40)) (r1 : List (S46)) (r2 : Int) (r3 : Int) (w : World) (hr0 : Kd.C k40 w A0 l0.length l0) (hc0 : l0.length ≤ c0) (h : flow_Parts.f l0 = some (r1, r2, r3)) :
    Calls Try.prog 13 #[.slice A0 l0.length c0] w fun e w' => ∃ v0_ : Value, e = .returned (.tuple #[v0_, .agg #[.int .i64 r2, .int .i64 r3]]) ∧ Kd.S k46 46 w' w.heap.size (fun _ => True) v0_ r1 ∧ Below w.heap.size w w' := by
  unfold flow_Parts.f at h
  obtain ⟨⟨t1, t2⟩, hC, h⟩ := Option.bind_eq_some_iff.mp h
  simp only at h
  by_cases hz : (!(t1 == 0) || (!(t2 == 0))) = true
  · rw [if_pos hz] at h
    simp only [Option.some.injEq, Prod.mk.injEq] at h
    obtain ⟨rfl, rfl, rfl⟩ := h
    exact flow_Parts.calls_bad A0 c0 l0 t1 t2 w hr0 hc0 hC hz
  rw [if_neg hz] at h
  simp only [Option.some.injEq, Prod.mk.injEq] at h
  obtain ⟨rfl, rfl, rfl⟩ := h
  have hz1 : t1 = 0 := by
    by_cases e : t1 = 0
    · exact e
    · exact absurd (by simp [e]) hz
  have hz2 : t2 = 0 := by
    by_cases e : t2 = 0
    · exact e
    · exact absurd (by simp [e]) hz
  subst hz1
  subst hz2
  exact flow_Parts.calls_ok A0 c0 l0 w hr0 hc0 hC

end Go.Proofs.Ytimflmgdnfpodaa.PAll
