/- ChainMapped's walk. -/
import Derived.Test.YtokfalcmkmelpaaPChB
import Derived.Test.YtokfalcmkmelpaaWMapped
import Derived.Test.YtokfalcmkmelpaaRG2
import Derived.Deep.DeepMust
import Derived.Test.YtokfalcmkmelpaaHChain7
import Derived.Test.YtokfalcmkmelpaaPAllx14
import Derived.Test.YtokfalcmkmelpaaPAllx23
import Derived.Test.YtokfalcmkmelpaaPAllx24
import Derived.Test.YtokfalcmkmelpaaPAllx4
import Derived.Test.YtokfalcmkmelpaaPAllx5
namespace Go.Proofs.Ytokfalcmkmelpaa.Pure
open Go.RowKit Go.Proofs.Ytokfalcmkmelpaa.PAll Go.Proofs.YtokfalcmkmelpaaW.PrintWords Go.Proofs.YtokfalcmkmelpaaW.PrintLast Go.Proofs.YtokfalcmkmelpaaHChain Go.Proofs.YtokfalcmkmelpaaEv Go.Proofs.YtokfalcmkmelpaaRF Go.Proofs.YtokfalcmkmelpaaRG
set_option linter.unusedSimpArgs false
set_option linter.unusedVariables false
theorem mp_fL (t : Nat → Int) (x y : Lr) (h : fL x = fL y) : fL (mp t x) = fL (mp t y) := by
  unfold fL at h ⊢
  injection h with h0 h1
  unfold mp
  simp only [h0, h1]
set_option maxHeartbeats 4000000 in
set_option maxRecDepth 100000 in
theorem ChainMapped_calls (A0 : Option Addr) (c0 : Nat) (l0 : List Int) (t : Nat → Int) (A2 : Option Addr) (c2 : Nat) (l2 : List Int) (w : World) (hr0 : Kd.C (Kd.int .i64) w A0 l0.length l0) (hc0 : l0.length ≤ c0) (hr2 : Kd.C (Kd.int .i64) w A2 l2.length l2) (hc2 : l2.length ≤ c2) :
    Calls Try.prog 8 #[.slice A0 l0.length c0, .agg #[.int .i64 (t 0), .int .i64 (t 1), .int .i64 (t 2), .int .i64 (t 3)], .slice A2 l2.length c2] w fun e w' => e = .returned (.bool true) ∧ Below w.heap.size w w' := by
  have HR0 := Aside0.mk hr0
  have HR2 := Aside0.mk hr2
  have hu := Try.underlying37
  clear hr0 hr2
  by_cases h40 : l0.length ≤ 40
  case neg =>
    go_enter Try.func8, Try.ntmps8
    go_wp2_with fail
    refine (chaperonlaw10_ChainKnown.calls 12 true _ (known 12 (Nat.le_refl _))).mono ?_
    rintro e w1 ⟨rfl, hb1⟩
    have HB1 := Aside0.mk (((Below.refl w.heap.size w).alloc (Nat.le_refl _) _).trans (hb1.mono (by simp)))
    clear hb1
    go_wp2
    go_ret
    exact ⟨rfl, HB1.out⟩
  by_cases h20 : l2.length ≤ 20
  case neg =>
    go_enter Try.func8, Try.ntmps8
    go_wp2_with fail
    refine (chaperonlaw10_ChainKnown.calls 12 true _ (known 12 (Nat.le_refl _))).mono ?_
    rintro e w1 ⟨rfl, hb1⟩
    have HB1 := Aside0.mk (((Below.refl w.heap.size w).alloc (Nat.le_refl _) _).trans (hb1.mono (by simp)))
    clear hb1
    go_wp2
    go_ret
    exact ⟨rfl, HB1.out⟩
  obtain ⟨l, hl, hll⟩ := made l0 (by omega) 41 (by omega)
  obtain ⟨a, ha, hal⟩ := made l2 (by omega) 21 (by omega)
  have HL := Aside0.mk hl
  have HA := Aside0.mk ha
  have HLL := Aside0.mk hll
  have HAL := Aside0.mk hal
  have hlen : l.length ≤ 40 := by omega
  have halen : a.length ≤ 20 := by omega
  clear hl ha hll hal
  go_enter Try.func8, Try.ntmps8
  go_wp2_with fail
  refine (chaperonlaw10_ChainKnown.calls 12 true _ (known 12 (Nat.le_refl _))).mono ?_
  rintro e w1 ⟨rfl, hb1⟩
  have HB1 := Aside0.mk (((Below.refl w.heap.size w).alloc (Nat.le_refl _) _).trans (hb1.mono (by simp)))
  have HBX1 := Aside0.mk ((hb1.block w.heap.size (by simp)).trans (at_new w (.cells #[.int .i64 (t 0), .int .i64 (t 1), .int .i64 (t 2), .int .i64 (t 3)] 51) rfl))
  clear hb1
  go_wp2_with fail
  refine (chaperonlaw10_made.calls 41 A0 c0 l0 l w1 (Kd.C_below HR0.out HB1.out) hc0 HL.out).mono ?_
  rintro e w2 ⟨v, rfl, hR2, hb2⟩
  obtain ⟨A8, c8, rfl, hc8, hC8⟩ := Kd.R_reads hR2
  have HB2 := Aside0.mk (HB1.out.trans (hb2.mono HB1.out.size))
  have HC8 := Aside0.mk hC8
  have HBX2 := Aside0.mk ((hb2.block w.heap.size (lt_of_at HBX1.out)).trans HBX1.out)
  clear hC8 hR2 hb2 HB1 HBX1
  go_wp2_with fail
  refine (chaperonlaw10_made.calls 21 A2 c2 l2 a w2 (Kd.C_below HR2.out HB2.out) hc2 HA.out).mono ?_
  rintro e w3 ⟨v9, rfl, hR3, hb3⟩
  have HR9 := Aside0.mk hR3
  have HB3 := Aside0.mk (HB2.out.trans (hb3.mono HB2.out.size))
  have HC8b := Aside0.mk (Kd.C_below HC8.out hb3)
  have HBX3 := Aside0.mk ((hb3.block w.heap.size (lt_of_at HBX2.out)).trans HBX2.out)
  have HB23 := Aside0.mk hb3
  have HBX2c := Aside0.mk HBX2.out
  clear hR3 hb3 HBX2 HBX3 HB3 HC8b
  obtain ⟨A9, c9, rfl, hc9, _⟩ := Kd.R_reads HR9.out
  go_wp2_with fail
  go_loopw [10] (fun v10 wr => ∃ i : Nat, i ≤ a.length ∧ v10 = .int .i64 i ∧ Aside0 (∃ b : List Lr, b.length = a.length ∧ Kd.R k37 37 wr w2.heap.size (fun _ => True) (.slice A9 a.length c9) b ∧ Below w2.heap.size w2 wr))
    (fun v10 _ => a.length - (intOf v10).toNat)
  case atStart => exact ⟨0, Nat.zero_le _, rfl, ⟨a, rfl, HR9.out, HB23.out⟩⟩
  case round =>
    obtain ⟨i, hi, rfl, ⟨b, hbl, hR, hB⟩⟩ := hrel
    by_cases hlt : i < a.length
    · obtain ⟨g9, cap9, e9, hbg, hgs, cells, hcells⟩ := Kd.R_form hR (by omega)
      injection e9 with eA eL ec
      subst eA ec
      obtain ⟨c, hcl, hcM, hcc, hcf⟩ := Kd.R_elem hR (b[i]'(by omega)) (i : Int) (by omega) (by omega)
      have hce := k37_openM hcM
      obtain ⟨x, hx⟩ : ∃ x, x = b.getD (i : Int).toNat (b[i]'(by omega)) := ⟨_, rfl⟩
      rw [← hx] at hce
      have HB := Aside0.mk hB
      have HR := Aside0.mk hR
      have HCC := Aside0.mk hcc
      have HCE := Aside0.mk hce
      have HCL := Aside0.mk hcl
      have HBL := Aside0.mk hbl
      clear hx hB hR hcc hce hcl hbl hcM hcells hbg hcf eL
      clear hc9
      go_wp2_with ((with_reducible refine gate_store (t := 3) (p := 36) rfl ?_); go_must ((refine Kd.R_store k37 (w0 := w2) (W := wr) w2.heap.size rfl rfl 3 (.tmp 36) (.tmp 34) rfl 37 (g := g9) (n := a.length) (cap := c9) (o' := i * 3 + 2) (i : Int) 2 b ⟨x.f0, x.f1, -1 - (i : Int)⟩ (.int .i64 (-1 - (i : Int))) [.int .i64 (-1 - (i : Int))] c (fun _ => True) (fun k => True ∧ k ≠ g9) ?aA ?aO ?aX rfl ?aT ?a1 HR.out ?aZ ?aI HCL.out HCC.out ?aJ ?aM (fun _ h => h) HB.out ?_); (case aT => kernel_rfl); (case aZ => omega); (case aI => omega); (case aA => simp [Act.eval]); (case aX => simp [Act.eval]); (case aO => show i * 3 + 2 = (i : Int).toNat * 3 + 2; omega); (case a1 => simp [Value.oneCell']); (case aJ => show 2 + 1 ≤ 3; omega); (case aM => rw [HCE.out]; exact k37_mkM _ _ _ _); intro w4 hR4 hB4 hg4; have HR4 := Aside0.mk hR4; have HB4 := Aside0.mk hB4; clear hR4 hB4 hg4))
      go_roundw
      case rel => exact ⟨i + 1, by omega, by go_num, ⟨_, by rw [List.length_set]; exact HBL.out, HR4.out, HB4.out⟩⟩
      case measure => simp [intOf]; omega
    · obtain ⟨_, hc9b, hC9⟩ := Kd.R_reads' hR
      rw [← hbl] at hc9b ⊢
      obtain ⟨m1, hm1⟩ : ∃ x, x = l.map (mp t) := ⟨_, rfl⟩
      obtain ⟨n, hn⟩ : ∃ x, x = norm fL l := ⟨_, rfl⟩
      obtain ⟨m2, hm2⟩ : ∃ x, x = n.map (mp t) := ⟨_, rfl⟩
      obtain ⟨q, hq⟩ : ∃ x, x = norm fL (b ++ m1) := ⟨_, rfl⟩
      have hnl : n.length ≤ l.length := by rw [hn]; exact norm_len _ _
      have hm1l : m1.length = l.length := by rw [hm1, List.length_map]
      have hm2l : m2.length = n.length := by rw [hm2, List.length_map]
      have hql : q.length ≤ 60 := by rw [hq]; refine Nat.le_trans (norm_len _ _) ?_; rw [List.length_append]; omega
      have fr := norm_frame (f0 := fL) (f := fL) (g := mp t) (mp_fL t) b [] l
      simp only [List.append_nil] at fr
      have HNL := Aside0.mk (show chain_Norm.f l = some n by rw [Norm_is l (by omega), hn])
      have HQ1 := Aside0.mk (show chain_Merge.f b m1 = some q by rw [merge_is b m1 (by omega), hq])
      have HQ2 := Aside0.mk (show chain_Merge.f b m2 = some q by rw [merge_is b m2 (by omega), hm2, hn, fr, ← hm1, hq])
      have HS := Aside0.mk (same q (by omega) 62 (by omega))
      have HM1 := Aside0.mk hm1
      have HM2 := Aside0.mk hm2
      have HC9 := Aside0.mk hC9
      have HC8 := Aside0.mk (Kd.C_below HC8.out hB)
      have HB4 := Aside0.mk (HB2.out.trans (hB.mono HB2.out.size))
      have HBX := Aside0.mk ((hB.block w.heap.size (lt_of_at HBX2c.out)).trans HBX2c.out)
      have hge : ¬ i < b.length := by omega
      have hib : i ≤ b.length := by omega
      have hbl20 : b.length ≤ 20 := by omega
      have hml1 : m1.length ≤ 40 := by omega
      have hml2 : m2.length ≤ 40 := by omega
      have hnl40 : n.length ≤ 40 := by omega
      clear hm1 hm2 hn hq fr hC9 hR hB HBX2c HB2 HR9 HB23 hnl hbl hlt hi hc9 hm1l hm2l
      go_wp2_with fail
      refine rg_region (N := 52) 16 Grows (by kernel_rfl) (by kernel_rfl) rfl Grows.refl Grows.trans ?_
      rw [show List.range 16 = [0, 1, 2, 3, 4, 5, 6, 7, 8, 9, 10, 11, 12, 13, 14, 15] from rfl]
      refine rg_val (.bool true) Grows.refl rfl (fun _ _ _ _ => wanted_none rfl) ?_ ?_
      · intro a w' hr hs
        have h7 := hs.out 7 (by kernel_rfl)
        simp only at h7
        go_simp
      refine rg_val (.bool true) Grows.refl rfl (fun _ _ _ _ => wanted_none rfl) ?_ ?_
      · intro a w' hr hs
        have h37 := hs.get 0 rfl (by kernel_rfl) rfl
        simp only at h37
        go_simp
      refine rg_val (.slice A9 b.length c9) Grows.refl rfl (fun a w hr hs => on_guard (g := 1) (t := 38) rfl rfl (hs.get 0 rfl (by kernel_rfl) rfl)) ?_ ?_
      · intro a w' hr hs
        have h9 := hs.out 9 (by kernel_rfl)
        simp only at h9
        go_simp
      refine rg_val (.slice A8 l.length c8) Grows.refl rfl (fun a w hr hs => on_guard (g := 1) (t := 38) rfl rfl (hs.get 1 rfl (by kernel_rfl) rfl)) ?_ ?_
      · intro a w' hr hs
        have h8 := hs.out 8 (by kernel_rfl)
        simp only at h8
        go_simp
      refine rg_val (.agg #[.int .i64 (t 0), .int .i64 (t 1), .int .i64 (t 2), .int .i64 (t 3)]) Grows.refl rfl (fun a w hr hs => on_guard (g := 1) (t := 38) rfl rfl (hs.get 2 rfl (by kernel_rfl) rfl)) ?_ ?_
      · intro a w' hr hs
        have h4 := hs.out 4 (by kernel_rfl)
        simp only at h4
        have hbx := (hr.block w.heap.size (by simpa using lt_of_at HBX.out)).trans (at_drew HBX.out)
        have x0 := cell_at hbx 0
        have x1 := cell_at hbx 1
        have x2 := cell_at hbx 2
        have x3 := cell_at hbx 3
        simp only [List.getElem?_toArray, List.getElem?_cons_zero, List.getElem?_cons_succ] at x0 x1 x2 x3
        clear hbx
        go_simp
      refine rg_call (Rowed k37 m1) (fun _ _ _ hg hx => hx.grows hg) rfl rfl Try.func36 (by kernel_rfl) rfl (fun a w hr hs => on_guard (g := 1) (t := 38) rfl rfl (hs.get 3 rfl (by kernel_rfl) rfl)) ?_ ?_
      · intro a w' hr hs
        have h40 := hs.get 1 rfl (by kernel_rfl) rfl
        have h41 := hs.get 0 rfl (by kernel_rfl) rfl
        simp only at h40 h41
        rw [show (#[Operand.tmp 40, Operand.tmp 41] : Array Operand).map a.eval = #[.slice A8 l.length c8, .agg #[.int .i64 (t 0), .int .i64 (t 1), .int .i64 (t 2), .int .i64 (t 3)]] by simp [Act.eval, h40, h41]]
        refine ((by rw [HM1.out]; exact mapped_calls A8 c8 l t w' (Kd.C_below (Kd.C_drew HC8.out) hr) hc8 (by omega) : Calls _ _ _ _ (fun e w'' => ∃ v0_ : Value, e = .returned (v0_) ∧ Kd.R k37 37 w'' w'.heap.size (fun _ => True) v0_ m1 ∧ Below w'.heap.size w' w''))).mono ?_
        rintro e w3 ⟨v, rfl, hR, hb⟩
        exact ⟨_, rfl, hb, Kd.R_reads hR⟩
      refine rg_call (Rowed k37 q) (fun _ _ _ hg hx => hx.grows hg) rfl rfl Try.func23 (by kernel_rfl) rfl (fun a w hr hs => on_guard (g := 1) (t := 38) rfl rfl (hs.get 4 rfl (by kernel_rfl) rfl)) ?_ ?_
      · intro a w' hr hs
        have h39 := hs.get 3 rfl (by kernel_rfl) rfl
        obtain ⟨A42, c42, h42, hc42, hC42⟩ := hs.get 0 rfl (by kernel_rfl) rfl
        simp only at h39
        rw [show (#[Operand.tmp 39, Operand.tmp 42] : Array Operand).map a.eval = #[.slice A9 b.length c9, .slice A42 (m1).length c42] by simp [Act.eval, h39, h42]]
        refine (chain_Merge.calls (fun k_ => k_ < w'.heap.size) A9 c9 b (fun k_ => k_ < w'.heap.size) A42 c42 m1 q w' (Kd.V_mk hc9b (Kd.C_F k37_heap (Kd.C_below (Kd.C_drew HC9.out) hr))) (Kd.V_mk hc42 (Kd.C_F k37_heap hC42)) HQ1.out).mono ?_
        rintro e w3 ⟨v, rfl, hR, hb⟩
        exact ⟨_, rfl, hb, Kd.R_reads hR⟩
      refine rg_val (.slice A9 b.length c9) Grows.refl rfl (fun a w hr hs => on_guard (g := 1) (t := 38) rfl rfl (hs.get 5 rfl (by kernel_rfl) rfl)) ?_ ?_
      · intro a w' hr hs
        have h9 := hs.out 9 (by kernel_rfl)
        simp only at h9
        go_simp
      refine rg_val (.slice A8 l.length c8) Grows.refl rfl (fun a w hr hs => on_guard (g := 1) (t := 38) rfl rfl (hs.get 6 rfl (by kernel_rfl) rfl)) ?_ ?_
      · intro a w' hr hs
        have h8 := hs.out 8 (by kernel_rfl)
        simp only at h8
        go_simp
      refine rg_call (Rowed k37 n) (fun _ _ _ hg hx => hx.grows hg) rfl rfl Try.func21 (by kernel_rfl) rfl (fun a w hr hs => on_guard (g := 1) (t := 38) rfl rfl (hs.get 7 rfl (by kernel_rfl) rfl)) ?_ ?_
      · intro a w' hr hs
        have h45 := hs.get 0 rfl (by kernel_rfl) rfl
        simp only at h45
        rw [show (#[Operand.tmp 45] : Array Operand).map a.eval = #[.slice A8 l.length c8] by simp [Act.eval, h45]]
        refine (chain_Norm.calls A8 c8 l n _ (Kd.C_below (Kd.C_drew HC8.out) hr) hc8 HNL.out).mono ?_
        rintro e w3 ⟨v, rfl, hR, hb⟩
        exact ⟨_, rfl, hb, Kd.R_reads hR⟩
      refine rg_val (.agg #[.int .i64 (t 0), .int .i64 (t 1), .int .i64 (t 2), .int .i64 (t 3)]) Grows.refl rfl (fun a w hr hs => on_guard (g := 1) (t := 38) rfl rfl (hs.get 8 rfl (by kernel_rfl) rfl)) ?_ ?_
      · intro a w' hr hs
        have h4 := hs.out 4 (by kernel_rfl)
        simp only at h4
        have hbx := (hr.block w.heap.size (by simpa using lt_of_at HBX.out)).trans (at_drew HBX.out)
        have x0 := cell_at hbx 0
        have x1 := cell_at hbx 1
        have x2 := cell_at hbx 2
        have x3 := cell_at hbx 3
        simp only [List.getElem?_toArray, List.getElem?_cons_zero, List.getElem?_cons_succ] at x0 x1 x2 x3
        clear hbx
        go_simp
      refine rg_call (Rowed k37 m2) (fun _ _ _ hg hx => hx.grows hg) rfl rfl Try.func36 (by kernel_rfl) rfl (fun a w hr hs => on_guard (g := 1) (t := 38) rfl rfl (hs.get 9 rfl (by kernel_rfl) rfl)) ?_ ?_
      · intro a w' hr hs
        obtain ⟨A46, c46, h46, hc46, hC46⟩ := hs.get 1 rfl (by kernel_rfl) rfl
        have h47 := hs.get 0 rfl (by kernel_rfl) rfl
        simp only at h47
        rw [show (#[Operand.tmp 46, Operand.tmp 47] : Array Operand).map a.eval = #[.slice A46 (n).length c46, .agg #[.int .i64 (t 0), .int .i64 (t 1), .int .i64 (t 2), .int .i64 (t 3)]] by simp [Act.eval, h46, h47]]
        refine ((by rw [HM2.out]; exact mapped_calls A46 c46 n t w' hC46 hc46 (by omega) : Calls _ _ _ _ (fun e w'' => ∃ v0_ : Value, e = .returned (v0_) ∧ Kd.R k37 37 w'' w'.heap.size (fun _ => True) v0_ m2 ∧ Below w'.heap.size w' w''))).mono ?_
        rintro e w3 ⟨v, rfl, hR, hb⟩
        exact ⟨_, rfl, hb, Kd.R_reads hR⟩
      refine rg_call (Rowed k37 q) (fun _ _ _ hg hx => hx.grows hg) rfl rfl Try.func23 (by kernel_rfl) rfl (fun a w hr hs => on_guard (g := 1) (t := 38) rfl rfl (hs.get 10 rfl (by kernel_rfl) rfl)) ?_ ?_
      · intro a w' hr hs
        have h44 := hs.get 4 rfl (by kernel_rfl) rfl
        obtain ⟨A48, c48, h48, hc48, hC48⟩ := hs.get 0 rfl (by kernel_rfl) rfl
        simp only at h44
        rw [show (#[Operand.tmp 44, Operand.tmp 48] : Array Operand).map a.eval = #[.slice A9 b.length c9, .slice A48 (m2).length c48] by simp [Act.eval, h44, h48]]
        refine (chain_Merge.calls (fun k_ => k_ < w'.heap.size) A9 c9 b (fun k_ => k_ < w'.heap.size) A48 c48 m2 q w' (Kd.V_mk hc9b (Kd.C_F k37_heap (Kd.C_below (Kd.C_drew HC9.out) hr))) (Kd.V_mk hc48 (Kd.C_F k37_heap hC48)) HQ2.out).mono ?_
        rintro e w3 ⟨v, rfl, hR, hb⟩
        exact ⟨_, rfl, hb, Kd.R_reads hR⟩
      refine rg_call (fun v _ => v = .bool true) (fun _ _ _ _ h => h) rfl rfl Try.func20 (by kernel_rfl) rfl (fun a w hr hs => on_guard (g := 1) (t := 38) rfl rfl (hs.get 11 rfl (by kernel_rfl) rfl)) ?_ ?_
      · intro a w' hr hs
        obtain ⟨A43, c43, h43, hc43, hC43⟩ := hs.get 6 rfl (by kernel_rfl) rfl
        obtain ⟨A49, c49, h49, hc49, hC49⟩ := hs.get 0 rfl (by kernel_rfl) rfl
        rw [show (#[Operand.tmp 43, Operand.tmp 49] : Array Operand).map a.eval = #[.slice A43 (q).length c43, .slice A49 (q).length c49] by simp [Act.eval, h43, h49]]
        refine (chaperonkit_SameLayers.calls 62 A43 c43 q A49 c49 q true w' hC43 hc43 hC49 hc49 HS.out).mono ?_
        rintro e w3 ⟨rfl, hb⟩
        exact ⟨_, rfl, hb.below, rfl⟩
      refine rg_val (.bool true) Grows.refl rfl (fun _ _ _ _ => wanted_none rfl) ?_ ?_
      · intro a w' hr hs
        have h38 := hs.get 12 rfl (by kernel_rfl) rfl
        have h50 := hs.get 0 rfl (by kernel_rfl) rfl
        simp only at h38 h50
        go_simp
      refine rg_val (.bool true) Grows.refl rfl (fun _ _ _ _ => wanted_none rfl) ?_ ?_
      · intro a w' hr hs
        have h51 := hs.get 0 rfl (by kernel_rfl) rfl
        simp only at h51
        go_simp
      intro vs w6 hr hE
      have e15 : vs 15 = .bool true := hE _ (.head _)
      have HB6 := Aside0.mk (HB4.out.trans (Below.mono (Below.trans (Below.refl wr.heap.size wr).drew hr) HB4.out.size))
      clear hE hr
      rw [show List.range 16 = [0, 1, 2, 3, 4, 5, 6, 7, 8, 9, 10, 11, 12, 13, 14, 15] from rfl]
      simp only [putL, slotOf, List.getElem?_toArray, List.getElem?_cons_succ, List.getElem?_cons_zero, Option.bind_some, Act.put, List.setIfInBounds_toArray, List.set_cons_succ, List.set_cons_zero, e15]
      refine tail_end ?_
      clear e15
      go_wp2_with fail
      go_ret
      exact ⟨rfl, HB6.out⟩
end Go.Proofs.Ytokfalcmkmelpaa.Pure
