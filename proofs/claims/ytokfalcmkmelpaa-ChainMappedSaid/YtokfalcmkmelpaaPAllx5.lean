-- WRITTEN BY hand.py of this session, over the kit's print: a text of this seat
import Derived.Test.YtokfalcmkmelpaaPAllx0
import Derived.Test.YtokfalcmkmelpaaPAllx4
namespace Go.Proofs.Ytokfalcmkmelpaa.PAll
open Go.RowKit Go.Proofs.YtokfalcmkmelpaaW.PrintWords Go.Proofs.YtokfalcmkmelpaaW.PrintLast Go.Proofs.YtokfalcmkmelpaaW.PrintMore
attribute [local go_sem] max2_int min2_int max_two min_two max_three min_three max_four min_four   -- for this text's walks alone
set_option linter.unusedVariables false
set_option linter.unusedSimpArgs false

/-! ### chain_Norm: function 21 -/
open Go.Proofs.YtokfalcmkmelpaaRF Go.Proofs.YtokfalcmkmelpaaHChain in
/-- A chain's layers, by place. -/
def chain_Norm.lay (l : List (S37)) (i : Nat) : Lay := ((l.getD i z37).f0, (l.getD i z37).f1, (l.getD i z37).f2)
open Go.Proofs.YtokfalcmkmelpaaHChain in
/-- What is marked, both ways. -/
def chain_Norm.ms (l : List (S37)) : List Bool := marked (chain_Norm.lay l) l.length true (marked (chain_Norm.lay l) l.length false (List.replicate l.length false))
/-- Those of a list that are marked. -/
def chain_Norm.sel : List (S37) → List Bool → List (S37)
  | x :: r, b :: s => if b = true then x :: chain_Norm.sel r s else chain_Norm.sel r s
  | _, _ => []
theorem chain_Norm.sel_snoc : ∀ (l : List (S37)) (s : List Bool) (x : S37) (b : Bool), l.length = s.length → chain_Norm.sel (l ++ [x]) (s ++ [b]) = chain_Norm.sel l s ++ if b = true then [x] else []
  | [], [], x, b, _ => by cases b <;> simp [chain_Norm.sel]
  | [], _ :: _, _, _, h => by simp at h
  | _ :: _, [], _, _, h => by simp at h
  | y :: r, c :: s, x, b, h => by
    have ih := chain_Norm.sel_snoc r s x b (by simpa using h)
    cases c <;> simp [chain_Norm.sel, ih]
theorem chain_Norm.sel_len : ∀ (l : List (S37)) (s : List Bool), (chain_Norm.sel l s).length ≤ l.length
  | [], _ => by simp [chain_Norm.sel]
  | _ :: _, [] => by simp [chain_Norm.sel]
  | y :: r, c :: s => by
    have ih := chain_Norm.sel_len r s
    cases c <;> simp [chain_Norm.sel] <;> omega
def chain_Norm.f (l0 : List (S37)) : Option (List (S37)) := if l0.length < 4398046511104 then some (chain_Norm.sel l0 (chain_Norm.ms l0)) else none
theorem chain_Norm.infoK : (Try.prog.info? 58).map (fun i => (i.zero, i.size, i.bytes)) = some (some (.agg #[.bool false]), 1, 1) := by kernel_rfl
theorem chain_Norm.infoL : (Try.prog.info? 37).map (fun i => (i.zero, i.size, i.bytes)) = some (some (.agg #[(.bool false), (.string ⟨#[]⟩), (.int .i64 0)]), 3, 32) := by kernel_rfl
theorem chain_Norm.made (N : Nat) : madeCells #[.bool false] N = (List.replicate N (Value.bool false)).toArray := by
  refine Array.ext (by simp [madeCells]) fun i h1 h2 => ?_
  simp [madeCells, Nat.mod_one]
theorem chain_Norm.make (N : Nat) (hN : N < 4398046511104) (w : World) : (Instr.makeSlice 55 (.int .i64 (N : Int)) (.int .i64 (N : Int))).run Try.prog w = .ok (.slice (some ⟨w.heap.size, 0, none⟩) N N) (w.alloc (.cells ((List.replicate N false).map Value.bool).toArray 58)) := by
  obtain ⟨i0, hi, hzz⟩ := Option.map_eq_some_iff.1 chain_Norm.infoK
  simp only [Prod.mk.injEq] at hzz
  obtain ⟨hz0, hz1, hz2⟩ := hzz
  have := run_make (P := Try.prog) w 55 58 i0 (.agg #[.bool false]) Try.underlying55 hi hz0 .i64 .i64 (N : Int) (N : Int) (by omega) (by omega) (by rw [hz2]; omega) (by omega)
  rw [this, hz1]
  simp only [Int.toNat_natCast, Nat.mul_one, List.map_replicate]
  rw [show Value.cells (.agg #[.bool false]) = #[.bool false] from rfl, chain_Norm.made]
open Go.Proofs.YtokfalcmkmelpaaRF Go.Proofs.YtokfalcmkmelpaaHChain in
set_option maxHeartbeats 400000 in
theorem chain_Norm.calls (A0 : Option Addr) (c0 : Nat) (l0 : List (S37)) (r : List (S37)) (w : World) (hr0 : Kd.C k37 w A0 l0.length l0) (hc0 : l0.length ≤ c0) (h : chain_Norm.f l0 = some r) :
    Calls Try.prog 21 #[.slice A0 l0.length c0] w fun e w' => ∃ v0_ : Value, e = .returned (v0_) ∧ Kd.R k37 37 w' w.heap.size (fun _ => True) v0_ r ∧ Below w.heap.size w w' := by
  unfold chain_Norm.f at h
  have hlen : l0.length < 4398046511104 := by
    by_cases hl : l0.length < 4398046511104
    · exact hl
    · rw [if_neg hl] at h; cases h
  rw [if_pos hlen] at h
  obtain rfl := Option.some.inj h
  clear h
  have hrd : RdL w.heap.size w A0 l0.length (chain_Norm.lay l0) := fun i hi => by
    obtain ⟨ad, e, h0, h1, h2⟩ := at_T37 hr0 (i : Int) (by omega) (by omega)
    rw [Int.toNat_natCast] at h0 h1 h2
    exact ⟨ad, e, by have := World.block_lt_of_cell? w _ h0; rwa [Go.Proofs.YtokfalcmkmelpaaHChain.add_block] at this, h0, h1, h2⟩
  obtain ⟨N, hNl⟩ : ∃ N, N = l0.length := ⟨_, rfl⟩
  have hmk := chain_Norm.make N (by omega)
  have HR0 := Aside0.mk hr0
  have HRD := Aside0.mk hrd
  have HNL := Aside0.mk hNl
  rw [← hNl] at hlen hc0 hrd ⊢
  clear hr0 hNl
  go_enter Try.func21, Try.ntmps21
  go_wp2_with fail
  have hmsl : (List.replicate N false).length = N := by simp
  rw [show (Array.replicate N (Value.bool false)) = ((List.replicate N false).map Value.bool).toArray by simp]
  refine (marks_calls w.heap.size N c0 (by omega) A0 (chain_Norm.lay l0) false (List.replicate N false) hmsl _ w.heap.size N (hrd.below ((Below.refl _ w).alloc (Nat.le_refl _) _)) (Nat.le_refl _) (at_new _ _ rfl)).mono ?_
  rintro e w1 ⟨rfl, hm1, hrow1⟩
  have HM1 := Aside0.mk hm1
  have HROW1 := Aside0.mk hrow1
  clear hm1 hrow1 hrd hmk hmsl
  go_wp2_with fail
  have hb1 : Below w.heap.size w w1 := ((Below.refl _ w).alloc (Nat.le_refl _) _).trans (HM1.out.below (by simp) (fun k e => by omega))
  have hl1 : (marked (chain_Norm.lay l0) N false (List.replicate N false)).length = N := by simp [marked, Go.Proofs.YtokfalcmkmelpaaHChain.rowAt]
  refine (marks_calls w.heap.size N c0 (by omega) A0 (chain_Norm.lay l0) true (marked (chain_Norm.lay l0) N false (List.replicate N false)) hl1 _ w.heap.size N ((HNL.out ▸ HRD.out).below hb1) (Nat.le_refl _) HROW1.out).mono ?_
  rintro e w2 ⟨rfl, hm2, hrow2⟩
  have HB2 := Aside0.mk (hb1.trans (hm2.below (hb1.size) (fun k e => by omega)))
  have HROW2 := Aside0.mk hrow2
  clear hm2 hrow2 hb1 hl1 HM1 HROW1
  obtain ⟨M, hM⟩ : ∃ M, M = marked (chain_Norm.lay l0) N true (marked (chain_Norm.lay l0) N false (List.replicate N false)) := ⟨_, rfl⟩
  have HMS := Aside0.mk (show chain_Norm.ms l0 = M by rw [hM, HNL.out]; rfl)
  have HML := Aside0.mk (show M.length = N by rw [hM]; simp [marked, Go.Proofs.YtokfalcmkmelpaaHChain.rowAt])
  have HROW := Aside0.mk (show w2.heap[w.heap.size]? = some (.cells (M.map Value.bool).toArray 58 (0, 0)) by rw [hM]; exact HROW2.out)
  clear hM HROW2 HRD
  go_wp2_with fail
  go_loopw [2, 17] (fun v2 v17 wr => ∃ k : Nat, k ≤ N ∧ v17 = .int .i64 k ∧ Aside0 (Kd.R k37 37 wr w.heap.size (fun b => b ≠ w.heap.size) v2 (chain_Norm.sel (l0.take k) (M.take k)) ∧ Below w.heap.size w wr ∧ wr.heap[w.heap.size]? = some (.cells (M.map Value.bool).toArray 58 (0, 0))))
    (fun _ v17 _ => N - (intOf v17).toNat)
  case atStart => exact ⟨0, Nat.zero_le _, rfl, ⟨Kd.R_nil _ _ _ _ _, HB2.out, HROW.out⟩⟩
  case round =>
    obtain ⟨k, hk, rfl, ⟨ho, hb, hrow⟩⟩ := hrel
    have HO := Aside0.mk ho
    have HB := Aside0.mk hb
    have HRW := Aside0.mk hrow
    clear ho hb hrow HB2 HROW
    by_cases hlt : k < N
    · obtain ⟨ad, e, hx0, hx1, hx2⟩ := at_T37 (Kd.C_below HR0.out HB.out) (k : Int) (by omega) (by have := HNL.out; omega)
      rw [Int.toNat_natCast] at hx0 hx1 hx2
      cases e
      obtain ⟨x, hxE⟩ : ∃ x, x = rd_T37 l0 (k : Int) := ⟨_, rfl⟩
      rw [← hxE] at hx0 hx1 hx2
      have hxg : l0[k]? = some x := by
        rw [hxE]; unfold rd_T37
        rw [Int.toNat_natCast, List.getD_eq_getElem?_getD, List.getElem?_eq_getElem (by rw [← HNL.out]; exact hlt)]; rfl
      have hcm := cell_at (at_alloc HRW.out (.cells #[.bool x.f0, .string x.f1, .int .i64 x.f2] 37)) k
      obtain ⟨b, hbE⟩ : ∃ b, M[k]? = some b := ⟨_, List.getElem?_eq_getElem (by rw [HML.out]; exact hlt)⟩
      rw [List.getElem?_toArray, List.getElem?_map, hbE, Option.map_some] at hcm
      have hsel : chain_Norm.sel (l0.take (k + 1)) (M.take (k + 1)) = chain_Norm.sel (l0.take k) (M.take k) ++ if b = true then [x] else [] := by
        rw [List.take_add_one, List.take_add_one, hxg, hbE]
        exact chain_Norm.sel_snoc _ _ _ _ (by rw [List.length_take, List.length_take, HML.out, ← HNL.out])
      have hsl : (chain_Norm.sel (l0.take k) (M.take k)).length ≤ k := Nat.le_trans (chain_Norm.sel_len _ _) (List.length_take_le _ _)
      have HSEL := Aside0.mk hsel
      have HSL := Aside0.mk hsl
      have hsz : w.heap.size < wr.heap.size := lt_of_at HRW.out
      have HSZ := Aside0.mk hsz
      have hu1 := Try.underlying37
      have hu2 := Try.underlying58
      clear hxE hxg hbE hsel hsl hsz
      cases b
      · go_wp2
        go_roundw
        case rel => exact ⟨k + 1, by omega, by go_num, ⟨by rw [HSEL.out]; simpa using Kd.R_alloc HO.out _, HB.out.alloc (Nat.le_of_lt HSZ.out) _, at_alloc HRW.out _⟩⟩
        case measure => simp [intOf]; omega
      · go_wp2_with ((with_reducible refine gate_builtin (b := .append) (xs := #[.tmp 27, .tmp 29]) rfl ?_); at_builtin; (refine Kd.R_append k37 (w0 := w) (W := wr.alloc (.cells #[.bool x.f0, .string x.f1, .int .i64 x.f2] 37)) w.heap.size rfl (.tmp 27) (.tmp 29) 22 37 (.agg #[(.bool false), (.string ⟨#[]⟩), (.int .i64 0)]) 32 rfl Try.underlying22 chain_Norm.infoL rfl (by decide) (by omega) _ (chain_Norm.sel (l0.take k) (M.take k)) x [.bool x.f0, .string x.f1, .int .i64 x.f2] (fun b => b ≠ w.heap.size) (fun _ => False) rfl (by simp [Act.eval]) ?aP (fun _ hk => hk.elim) ?aF ?aO ?aB ?aS ?aL ?_); (case aP => exact k37_mkM _ _ _ x); (case aB => exact HB.out.alloc (Nat.le_of_lt HSZ.out) _); (case aF => intro j hj hje; have h1 := HSZ.out; simp at hj; omega); (case aO => exact Kd.R_alloc HO.out _); (case aS => have h1 := HSZ.out; simp; omega); (case aL => have h1 := HSL.out; omega); intro v1 w4 ho4 hb4 hg4 hat4; have HO4 := Aside0.mk ho4; have HB4 := Aside0.mk hb4; have HRW4 := Aside0.mk (show w4.heap[w.heap.size]? = some (.cells (M.map Value.bool).toArray 58 (0, 0)) from (hg4.block _ (by have h1 := HSZ.out; simp; omega) (fun e => HO.out.1 _ e.symm rfl)).trans (at_alloc HRW.out _)); clear ho4 hb4 hg4 hat4)
        go_roundw
        case rel => exact ⟨k + 1, by omega, by go_num, ⟨by rw [HSEL.out]; exact HO4.out, HB4.out, HRW4.out⟩⟩
        case measure => simp [intOf]; omega
    · have hkN : k = N := by omega
      have HK := Aside0.mk hkN
      clear hkN
      go_wp2
      go_ret
      refine ⟨_, rfl, ?_, HB.out⟩
      have := HO.out
      rw [HK.out, List.take_of_length_le (by rw [HNL.out]; exact Nat.le_refl _), List.take_of_length_le (by rw [HML.out]; exact Nat.le_refl _)] at this
      rw [HMS.out]
      exact Kd.R_mono this (fun _ _ => trivial)

/-! ### chaperonlaw10_norms: function 29 -/
def chaperonlaw10_norms.f (k : Nat) (l0 : List (S37)) (l1 : List (S37)) : Option (Bool) := (chain_Norm.f l0).bind fun t117 => ((chaperonkit_SameLayers.f k t117 l1).bind fun t120 => (some t120))
theorem chaperonlaw10_norms.mono : ∀ a0 a1 k, LeO (chaperonlaw10_norms.f k a0 a1) (chaperonlaw10_norms.f (k + 1) a0 a1) := by
  intro a0 a1 k
  unfold chaperonlaw10_norms.f
  repeat' first
      | (with_reducible exact chaperonkit_SameLayers.mono _ _ _)
      | (with_reducible exact LeO.refl _)
      | (with_reducible exact LeO.none _)
      | (with_reducible refine LeO.ite ?_ ?_)
      | (with_reducible refine LeO.bind ?_ (fun _ => ?_))
      | exact chaperonkit_SameLayers.mono _ _ _
      | exact LeO.none _
      | refine LeO.ite ?_ ?_
      | refine LeO.bind ?_ (fun _ => ?_)
set_option maxHeartbeats 8000000 in
set_option maxRecDepth 100000 in
theorem chaperonlaw10_norms.calls (k : Nat) (A0 : Option Addr) (c0 : Nat) (l0 : List (S37)) (A1 : Option Addr) (c1 : Nat) (l1 : List (S37)) (r : Bool) (w : World) (hr0 : Kd.C k37 w A0 l0.length l0) (hc0 : l0.length ≤ c0) (hr1 : Kd.C k37 w A1 l1.length l1) (hc1 : l1.length ≤ c1) (h : chaperonlaw10_norms.f k l0 l1 = some r) :
    Calls Try.prog 29 #[.slice A0 l0.length c0, .slice A1 l1.length c1] w fun e w' => e = .returned (.bool r) ∧ Below w.heap.size w w' := by
  have HR0 := Aside0.mk hr0
  have HC0 := Aside0.mk hc0
  clear hr0 hc0
  have HR1 := Aside0.mk hr1
  have HC1 := Aside0.mk hc1
  clear hr1 hc1
  have HB := Aside0.mk (Below.refl w.heap.size w)
  have H : ((chain_Norm.f l0).bind fun t117 => ((chaperonkit_SameLayers.f k t117 l1).bind fun t120 => (some t120))) = some r := h
  clear h
  replace H := Option.bind_eq_some_iff.mp H
  obtain ⟨t117, A30, H⟩ := H
  replace H : ((chaperonkit_SameLayers.f k t117 l1).bind fun t120 => (some t120)) = some r := H
  have A3 := Aside0.mk A30
  clear A30
  replace H := Option.bind_eq_some_iff.mp H
  obtain ⟨t120, A40, H⟩ := H
  replace H : (some t120) = some r := H
  have A4 := Aside0.mk A40
  clear A40
  obtain rfl := Option.some.inj H
  go_enter Try.func29, Try.ntmps29
  go_wp2_with (first | ((with_reducible refine gate_callee (f := 21) rfl ?_); refine goesL_ (some 6) rfl rfl Try.func21 (by kernel_rfl) rfl #[.slice A0 l0.length c0] rfl (by (try simp only [List.map_toArray, List.map_cons, List.map_nil]); first | done | rfl | (simp only [List.length_drop, List.length_take]; rfl)) ?_; (with_reducible refine (chain_Norm.calls _ _ l0 t117 _ ?side1 ?side2 A3.out).mono ?_); (case side1 => repeat (first | exact HR0.out | (with_reducible refine Kd.C_alloc ?_ _) | (with_reducible refine Kd.C_drewN ?_ _) | (with_reducible refine Kd.C_drew ?_))); (case side2 => exact HC0.out); rintro e w5 ⟨v118, rfl, ho0, hb⟩; refine ⟨_, rfl, ?_⟩; have n0_ := Aside0.mk (Kd.R_lower ho0 (below_size (by repeat (first | (with_reducible first | exact HB.out | apply below_alloc | apply pw_below_drewN | apply below_drew1) | exact HB.out)))); have n1_ := Aside0.mk (below_step (by repeat (first | (with_reducible first | exact HB.out | apply below_alloc | apply pw_below_drewN | apply below_drew1) | exact HB.out)) hb); clear HB; have HO119 := n0_; have HB := n1_; clear n0_ n1_; (try clear hb); (try clear hb2); (try clear hk); (try clear hi); (try clear ho0); obtain ⟨Ao6, co6, eo6⟩ := Kd.R_slice HO119.out; subst eo6) | ((with_reducible refine gate_callee (f := 20) rfl ?_); refine goesL_ (some 8) rfl rfl Try.func20 (by kernel_rfl) rfl #[.slice Ao6 t117.length co6, .slice A1 l1.length c1] rfl (by (try simp only [List.map_toArray, List.map_cons, List.map_nil]); first | done | rfl | (simp only [List.length_drop, List.length_take]; rfl)) ?_; (with_reducible refine (chaperonkit_SameLayers.calls k _ _ t117 _ _ l1 t120 _ ?side1 ?side2 ?side3 ?side4 A4.out).mono ?_); (case side1 => repeat (first | exact (Kd.R_reads' HO119.out).2.2 | (with_reducible refine Kd.C_alloc ?_ _) | (with_reducible refine Kd.C_drewN ?_ _) | (with_reducible refine Kd.C_drew ?_))); (case side2 => exact (Kd.R_reads' HO119.out).2.1); (case side3 => repeat (first | exact (Kd.C_below HR1.out HB.out) | (with_reducible refine Kd.C_alloc ?_ _) | (with_reducible refine Kd.C_drewN ?_ _) | (with_reducible refine Kd.C_drew ?_))); (case side4 => exact HC1.out); rintro e w' ⟨rfl, ⟨nd, rfl⟩⟩; refine ⟨_, rfl, ?_⟩))
  go_ret
  exact ⟨by first | rfl | (simp [errW_none, errW_some] <;> rfl) | (simp [*, errW_none, errW_some] <;> rfl), by repeat (first | (with_reducible first | exact HB.out | apply below_alloc | apply pw_below_drewN | apply below_drew1) | exact HB.out)⟩

end Go.Proofs.Ytokfalcmkmelpaa.PAll
