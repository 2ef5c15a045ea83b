/- ChainAgain's walk. -/
import Derived.Test.YtokfalcmkmelpaaPChB
import Derived.Test.YtokfalcmkmelpaaPChM
import Derived.Test.YtokfalcmkmelpaaPChC
import Derived.Test.YtokfalcmkmelpaaPChG
import Derived.Test.YtokfalcmkmelpaaRG2
import Derived.Test.YtokfalcmkmelpaaHChain7
import Derived.Test.YtokfalcmkmelpaaPAllx11
import Derived.Test.YtokfalcmkmelpaaPAllx14
import Derived.Test.YtokfalcmkmelpaaPAllx23
import Derived.Test.YtokfalcmkmelpaaPAllx24
import Derived.Test.YtokfalcmkmelpaaPAllx3
import Derived.Test.YtokfalcmkmelpaaPAllx4
import Derived.Test.YtokfalcmkmelpaaPAllx5
import Derived.Test.YtokfalcmkmelpaaPAllx8
import Derived.Test.YtokfalcmkmelpaaPAllx9
namespace Go.Proofs.Ytokfalcmkmelpaa.Pure
open Go.RowKit Go.Proofs.Ytokfalcmkmelpaa.PAll Go.Proofs.YtokfalcmkmelpaaW.PrintWords Go.Proofs.YtokfalcmkmelpaaW.PrintLast Go.Proofs.YtokfalcmkmelpaaHChain Go.Proofs.YtokfalcmkmelpaaEv Go.Proofs.YtokfalcmkmelpaaRF Go.Proofs.YtokfalcmkmelpaaRG
set_option linter.unusedSimpArgs false
set_option linter.unusedVariables false
set_option maxHeartbeats 4000000 in
set_option maxRecDepth 100000 in
theorem ChainAgain_calls (A0 : Option Addr) (c0 : Nat) (l0 : List Int) (a1 : Int) (w : World) (hr0 : Kd.C (Kd.int .i64) w A0 l0.length l0) (hc0 : l0.length ≤ c0) :
    Calls Try.prog 6 #[.slice A0 l0.length c0, .int .i64 a1] w fun e w' => e = .returned (.bool true) ∧ Below w.heap.size w w' := by
  have HR0 := Aside0.mk hr0
  have hu := Try.underlying37
  clear hr0
  by_cases h60 : l0.length ≤ 60
  case neg =>
    go_enter Try.func6, Try.ntmps6
    go_wp2_with fail
    refine (chaperonlaw10_ChainKnown.calls 12 true _ (known 12 (Nat.le_refl _))).mono ?_
    rintro e w1 ⟨rfl, hb1⟩
    go_wp2
    go_ret
    exact ⟨rfl, hb1⟩
  obtain ⟨l, hl, hll⟩ := made l0 (by omega) 61 (by omega)
  obtain ⟨y, hy, hy0, hy1⟩ := pick8 a1 ((l.length : Int) + 1) (by omega) (by omega)
  obtain ⟨m, rfl⟩ : ∃ m : Nat, y = m := ⟨y.toNat, by omega⟩
  obtain ⟨lt, hlt⟩ : ∃ x, x = l.take m := ⟨_, rfl⟩
  obtain ⟨ld, hld⟩ : ∃ x, x = l.drop m := ⟨_, rfl⟩
  have hm : m = lt.length := by rw [hlt, List.length_take]; omega
  have hd : ld.length = l.length - lt.length := by rw [hld, ← hm, List.length_drop]
  have happ : lt ++ ld = l := by rw [hlt, hld, List.take_append_drop]
  obtain ⟨n, hn⟩ : ∃ n, n = norm fL l := ⟨_, rfl⟩
  have hnl : n.length ≤ l.length := by rw [hn]; exact norm_len _ _
  have HLL := Aside0.mk hll
  have fr := fun (a c : List Lr) (b : List Lr) => norm_frame (f0 := fL) (f := fL) (g := fun x => x) (fun x y h => h) a c b
  simp only [List.map_id'] at fr
  have HNL := Aside0.mk (show chain_Norm.f l = some n by rw [Norm_is l (by omega), hn])
  have HNN := Aside0.mk (show chain_Norm.f n = some n by
    have := fr [] [] l
    simp only [List.nil_append, List.append_nil] at this
    rw [Norm_is n (by omega), hn, this])
  obtain ⟨nt, hnt⟩ : ∃ x, x = norm fL lt := ⟨_, rfl⟩
  obtain ⟨nd, hnd⟩ : ∃ x, x = norm fL ld := ⟨_, rfl⟩
  have hntl : nt.length ≤ lt.length := by rw [hnt]; exact norm_len _ _
  have hndl : nd.length ≤ ld.length := by rw [hnd]; exact norm_len _ _
  have HNT := Aside0.mk (show chain_Norm.f lt = some nt by rw [Norm_is lt (by omega), hnt])
  have HND := Aside0.mk (show chain_Norm.f ld = some nd by rw [Norm_is ld (by omega), hnd])
  have HM1 := Aside0.mk (show chain_Merge.f nt ld = some n by
    have := fr [] ld lt
    simp only [List.nil_append] at this
    rw [merge_is nt ld (by omega), hnt, this, happ, hn])
  have HM2 := Aside0.mk (show chain_Merge.f lt nd = some n by
    have := fr lt [] ld
    simp only [List.append_nil] at this
    rw [merge_is lt nd (by omega), hnd, this, happ, hn])
  have HS := Aside0.mk (same n (by omega) 62 (by omega))
  have HN := Aside0.mk hn
  have HLT := Aside0.mk hlt
  have HLD := Aside0.mk hld
  have HM := Aside0.mk hm
  have HAPP := Aside0.mk happ
  have HY := Aside0.mk hy
  have HL := Aside0.mk hl
  have hlt1 : lt.length ≤ l.length := by omega
  have hlen : l.length ≤ 60 := by omega
  clear hn hlt hld happ hnt hnd fr hll hy hl hm
  go_enter Try.func6, Try.ntmps6
  go_wp2_with fail
  refine (chaperonlaw10_ChainKnown.calls 12 true _ (known 12 (Nat.le_refl _))).mono ?_
  rintro e w1 ⟨rfl, hb1⟩
  have HB1 := Aside0.mk hb1
  clear hb1
  go_wp2_with fail
  refine (chaperonlaw10_made.calls 61 A0 c0 l0 l w1 (Kd.C_below HR0.out HB1.out) hc0 HL.out).mono ?_
  rintro e w2 ⟨v, rfl, hR2, hb2⟩
  obtain ⟨A6, c6, rfl, hc6, hC6⟩ := Kd.R_reads hR2
  have HB2 := Aside0.mk (HB1.out.trans (hb2.mono HB1.out.size))
  have HC6 := Aside0.mk hC6
  clear hC6 hR2 hb2
  go_wp2_with fail
  refine (chaperonkit_Pick.calls a1 ((l.length : Int) + 1) m w2 HY.out).mono ?_
  rintro e w3 ⟨rfl, hb3⟩
  have HB3 := Aside0.mk (show Grows w2 w3 from hb3.below)
  clear hb3
  go_wp2_with fail
  refine (chain_Norm.calls A6 c6 l n w3 (Kd.C_below HC6.out HB3.out) hc6 HNL.out).mono ?_
  rintro e w4 ⟨v, rfl, hR4, hb4⟩
  obtain ⟨A7, c7, rfl, hc7, hC7⟩ := Kd.R_reads hR4
  have HC64 := Aside0.mk (Kd.C_below (Kd.C_below HC6.out HB3.out) hb4)
  have HB4 := Aside0.mk ((HB2.out.trans (HB3.out.mono HB2.out.size)).trans (hb4.mono (Nat.le_trans HB2.out.size HB3.out.size)))
  have HC7 := Aside0.mk hC7
  clear hR4 hb4 hC7 HC6 HB3 HB1 HB2
  go_wp2_with fail
  refine (chain_Bound.calls 4 144 0 w4 (by kernel_rfl)).mono ?_
  rintro e w5 ⟨rfl, hb5⟩
  have HB5 := Aside0.mk (HB4.out.trans (hb5.below.mono HB4.out.size))
  have HC6 := Aside0.mk (Kd.C_drew (Kd.C_below HC64.out hb5.below))
  have HC7 := Aside0.mk (Kd.C_drew (Kd.C_below HC7.out hb5.below))
  clear hb5 HB4 HC64
  go_wp2_with fail
  have hgt : ¬ ((n.length : Int) > 144) := by omega
  have e1 : m = lt.length := HM.out
  obtain ⟨A8, hA8⟩ : ∃ x, x = (if c6 = m then A6 else A6.map (·.add (m * 3))) := ⟨_, rfl⟩
  have HLT6 : ∀ {W : World}, Grows w5.drew W → Kd.C k37 W A6 lt.length lt := fun hg => by
    have := Kd.C_take (m := m) (Kd.C_below HC6.out hg) (by omega)
    rwa [← HLT.out] at this
  have HLD6 : ∀ {W : World}, Grows w5.drew W → Kd.C k37 W A8 ld.length ld := fun hg => by
    have := Kd.C_drop (m := m) (Kd.C_below HC6.out hg) (by omega) hc6
    rw [← HLD.out] at this
    rw [hA8]
    exact this
  have HA8 := Aside0.mk hA8
  have hld2 : (ld.length : Int) = l.length - lt.length := by omega
  clear hA8
  refine rg_region (N := 147) 41 Grows (by kernel_rfl) (by kernel_rfl) rfl Grows.refl Grows.trans ?_
  rw [show List.range 41 = [0, 1, 2, 3, 4, 5, 6, 7, 8, 9, 10, 11, 12, 13, 14, 15, 16, 17, 18, 19, 20, 21, 22, 23, 24, 25, 26, 27, 28, 29, 30, 31, 32, 33, 34, 35, 36, 37, 38, 39, 40] from rfl]
  refine rg_val (.int .i64 0) Grows.refl rfl (fun _ _ _ _ => wanted_none rfl) ?_ ?_
  · intro a w' hr hs
    have h9 := hs.out 9 (by kernel_rfl)
    simp only at h9
    go_simp
  refine rg_val (.bool false) Grows.refl rfl (fun _ _ _ _ => wanted_none rfl) ?_ ?_
  · intro a w' hr hs
    have h30 := hs.get 0 rfl (by kernel_rfl) rfl
    simp only at h30
    go_simp
  refine rg_val (.bool false) Grows.refl rfl (fun _ _ _ _ => wanted_none rfl) ?_ ?_
  · intro a w' hr hs
    have h31 := hs.get 0 rfl (by kernel_rfl) rfl
    simp only at h31
    go_simp
  refine rg_val (.slice A7 n.length c7) Grows.refl rfl (fun a w hr hs => on_guard (g := 2) (t := 32) rfl rfl (hs.get 0 rfl (by kernel_rfl) rfl)) ?_ ?_
  · intro a w' hr hs
    have h7 := hs.out 7 (by kernel_rfl)
    simp only at h7
    go_simp
  refine rg_val (.int .i64 (n.length : Nat)) Grows.refl rfl (fun a w hr hs => on_guard (g := 2) (t := 32) rfl rfl (hs.get 1 rfl (by kernel_rfl) rfl)) ?_ ?_
  · intro a w' hr hs
    have h33 := hs.get 0 rfl (by kernel_rfl) rfl
    simp only at h33
    go_simp
  refine rg_val (.int .i64 144) Grows.refl rfl (fun a w hr hs => on_guard (g := 2) (t := 32) rfl rfl (hs.get 2 rfl (by kernel_rfl) rfl)) ?_ ?_
  · intro a w' hr hs
    have h8 := hs.out 8 (by kernel_rfl)
    simp only at h8
    go_simp
  refine rg_val (.bool false) Grows.refl rfl (fun a w hr hs => on_guard (g := 2) (t := 32) rfl rfl (hs.get 3 rfl (by kernel_rfl) rfl)) ?_ ?_
  · intro a w' hr hs
    have h34 := hs.get 1 rfl (by kernel_rfl) rfl
    have h35 := hs.get 0 rfl (by kernel_rfl) rfl
    simp only at h34 h35
    go_simp
  refine rg_val (.bool false) Grows.refl rfl (fun _ _ _ _ => wanted_none rfl) ?_ ?_
  · intro a w' hr hs
    have h32 := hs.get 4 rfl (by kernel_rfl) rfl
    have h36 := hs.get 0 rfl (by kernel_rfl) rfl
    simp only at h32 h36
    go_simp
  refine rg_val (.bool false) Grows.refl rfl (fun _ _ _ _ => wanted_none rfl) ?_ ?_
  · intro a w' hr hs
    have h37 := hs.get 0 rfl (by kernel_rfl) rfl
    simp only at h37
    go_simp
  refine rg_val (.slice A7 n.length c7) Grows.refl rfl (fun a w hr hs => on_guard (g := 8) (t := 38) rfl rfl (hs.get 0 rfl (by kernel_rfl) rfl)) ?_ ?_
  · intro a w' hr hs
    have h7 := hs.out 7 (by kernel_rfl)
    simp only at h7
    go_simp
  refine rg_call (Rowed k37 n) (fun _ _ _ hg hx => hx.grows hg) rfl rfl Try.func21 (by kernel_rfl) rfl (fun a w hr hs => on_guard (g := 8) (t := 38) rfl rfl (hs.get 1 rfl (by kernel_rfl) rfl)) ?_ ?_
  · intro a w' hr hs
    have h39 := hs.get 0 rfl (by kernel_rfl) rfl
    simp only at h39
    rw [show (#[Operand.tmp 39] : Array Operand).map a.eval = #[.slice A7 n.length c7] by simp [Act.eval, h39]]
    refine (chain_Norm.calls A7 c7 n n _ (Kd.C_below HC7.out hr) hc7 HNN.out).mono ?_
    rintro e w3 ⟨v, rfl, hR, hb⟩
    exact ⟨_, rfl, hb, Kd.R_reads hR⟩
  refine rg_val (.slice A7 n.length c7) Grows.refl rfl (fun a w hr hs => on_guard (g := 8) (t := 38) rfl rfl (hs.get 2 rfl (by kernel_rfl) rfl)) ?_ ?_
  · intro a w' hr hs
    have h7 := hs.out 7 (by kernel_rfl)
    simp only at h7
    go_simp
  refine rg_call (fun v _ => v = .bool true) (fun _ _ _ _ h => h) rfl rfl Try.func20 (by kernel_rfl) rfl (fun a w hr hs => on_guard (g := 8) (t := 38) rfl rfl (hs.get 3 rfl (by kernel_rfl) rfl)) ?_ ?_
  · intro a w' hr hs
    obtain ⟨A40, c40, h40, hc40, hC40⟩ := hs.get 1 rfl (by kernel_rfl) rfl
    have h41 := hs.get 0 rfl (by kernel_rfl) rfl
    simp only at h41
    rw [show (#[Operand.tmp 40, Operand.tmp 41] : Array Operand).map a.eval = #[.slice A40 (n).length c40, .slice A7 n.length c7] by simp [Act.eval, h40, h41]]
    refine (chaperonkit_SameLayers.calls 62 A40 c40 n A7 c7 n true w' hC40 hc40 (Kd.C_below HC7.out hr) hc7 HS.out).mono ?_
    rintro e w3 ⟨rfl, hb⟩
    exact ⟨_, rfl, hb.below, rfl⟩
  refine rg_val (.bool false) Grows.refl rfl (fun a w hr hs => on_guard (g := 8) (t := 38) rfl rfl (hs.get 4 rfl (by kernel_rfl) rfl)) ?_ ?_
  · intro a w' hr hs
    have h42 := hs.get 0 rfl (by kernel_rfl) rfl
    simp only at h42
    go_simp
  refine rg_val (.bool false) Grows.refl rfl (fun _ _ _ _ => wanted_none rfl) ?_ ?_
  · intro a w' hr hs
    have h38 := hs.get 5 rfl (by kernel_rfl) rfl
    have h43 := hs.get 0 rfl (by kernel_rfl) rfl
    simp only at h38 h43
    go_simp
  refine rg_val (.bool false) Grows.refl rfl (fun _ _ _ _ => wanted_none rfl) ?_ ?_
  · intro a w' hr hs
    have h44 := hs.get 0 rfl (by kernel_rfl) rfl
    simp only at h44
    go_simp
  refine rg_val (.slice A6 l.length c6) Grows.refl rfl (fun a w hr hs => on_guard (g := 15) (t := 45) rfl rfl (hs.get 0 rfl (by kernel_rfl) rfl)) ?_ ?_
  · intro a w' hr hs
    have h6 := hs.out 6 (by kernel_rfl)
    simp only at h6
    go_simp
  refine rg_val (.int .i64 (m : Int)) Grows.refl rfl (fun a w hr hs => on_guard (g := 15) (t := 45) rfl rfl (hs.get 1 rfl (by kernel_rfl) rfl)) ?_ ?_
  · intro a w' hr hs
    have h1 := hs.out 1 (by kernel_rfl)
    simp only at h1
    go_simp
  refine rg_val (.slice A6 lt.length c6) Grows.refl rfl (fun a w hr hs => on_guard (g := 15) (t := 45) rfl rfl (hs.get 2 rfl (by kernel_rfl) rfl)) ?_ ?_
  · intro a w' hr hs
    have h46 := hs.get 1 rfl (by kernel_rfl) rfl
    have h47 := hs.get 0 rfl (by kernel_rfl) rfl
    simp only at h46 h47
    go_simp
    intro hno; omega
  refine rg_call (Rowed k37 nt) (fun _ _ _ hg hx => hx.grows hg) rfl rfl Try.func21 (by kernel_rfl) rfl (fun a w hr hs => on_guard (g := 15) (t := 45) rfl rfl (hs.get 3 rfl (by kernel_rfl) rfl)) ?_ ?_
  · intro a w' hr hs
    have h48 := hs.get 0 rfl (by kernel_rfl) rfl
    simp only at h48
    rw [show (#[Operand.tmp 48] : Array Operand).map a.eval = #[.slice A6 lt.length c6] by simp [Act.eval, h48]]
    refine (chain_Norm.calls A6 c6 lt nt _ (HLT6 hr) (Nat.le_trans hlt1 hc6) HNT.out).mono ?_
    rintro e w3 ⟨v, rfl, hR, hb⟩
    exact ⟨_, rfl, hb, Kd.R_reads hR⟩
  refine rg_val (.slice A6 l.length c6) Grows.refl rfl (fun a w hr hs => on_guard (g := 15) (t := 45) rfl rfl (hs.get 4 rfl (by kernel_rfl) rfl)) ?_ ?_
  · intro a w' hr hs
    have h6 := hs.out 6 (by kernel_rfl)
    simp only at h6
    go_simp
  refine rg_val (.int .i64 (m : Int)) Grows.refl rfl (fun a w hr hs => on_guard (g := 15) (t := 45) rfl rfl (hs.get 5 rfl (by kernel_rfl) rfl)) ?_ ?_
  · intro a w' hr hs
    have h1 := hs.out 1 (by kernel_rfl)
    simp only at h1
    go_simp
  refine rg_val (.slice A8 ld.length (c6 - m)) Grows.refl rfl (fun a w hr hs => on_guard (g := 15) (t := 45) rfl rfl (hs.get 6 rfl (by kernel_rfl) rfl)) ?_ ?_
  · intro a w' hr hs
    have h50 := hs.get 1 rfl (by kernel_rfl) rfl
    have h51 := hs.get 0 rfl (by kernel_rfl) rfl
    simp only at h50 h51
    have hA := HA8.out
    go_simp
  refine rg_call (Rowed k37 n) (fun _ _ _ hg hx => hx.grows hg) rfl rfl Try.func23 (by kernel_rfl) rfl (fun a w hr hs => on_guard (g := 15) (t := 45) rfl rfl (hs.get 7 rfl (by kernel_rfl) rfl)) ?_ ?_
  · intro a w' hr hs
    obtain ⟨A49, c49, h49, hc49, hC49⟩ := hs.get 3 rfl (by kernel_rfl) rfl
    have h52 := hs.get 0 rfl (by kernel_rfl) rfl
    simp only at h52
    rw [show (#[Operand.tmp 49, Operand.tmp 52] : Array Operand).map a.eval = #[.slice A49 (nt).length c49, .slice A8 ld.length (c6 - m)] by simp [Act.eval, h49, h52]]
    refine (chain_Merge.calls (fun k_ => k_ < w'.heap.size) A49 c49 nt (fun k_ => k_ < w'.heap.size) A8 (c6 - m) ld n w' (Kd.V_mk hc49 (Kd.C_F k37_heap hC49)) (Kd.V_mk (by omega) (Kd.C_F k37_heap (HLD6 hr))) HM1.out).mono ?_
    rintro e w3 ⟨v, rfl, hR, hb⟩
    exact ⟨_, rfl, hb, Kd.R_reads hR⟩
  refine rg_val (.slice A7 n.length c7) Grows.refl rfl (fun a w hr hs => on_guard (g := 15) (t := 45) rfl rfl (hs.get 8 rfl (by kernel_rfl) rfl)) ?_ ?_
  · intro a w' hr hs
    have h7 := hs.out 7 (by kernel_rfl)
    simp only at h7
    go_simp
  refine rg_call (fun v _ => v = .bool true) (fun _ _ _ _ h => h) rfl rfl Try.func20 (by kernel_rfl) rfl (fun a w hr hs => on_guard (g := 15) (t := 45) rfl rfl (hs.get 9 rfl (by kernel_rfl) rfl)) ?_ ?_
  · intro a w' hr hs
    obtain ⟨A53, c53, h53, hc53, hC53⟩ := hs.get 1 rfl (by kernel_rfl) rfl
    have h54 := hs.get 0 rfl (by kernel_rfl) rfl
    simp only at h54
    rw [show (#[Operand.tmp 53, Operand.tmp 54] : Array Operand).map a.eval = #[.slice A53 (n).length c53, .slice A7 n.length c7] by simp [Act.eval, h53, h54]]
    refine (chaperonkit_SameLayers.calls 62 A53 c53 n A7 c7 n true w' hC53 hc53 (Kd.C_below HC7.out hr) hc7 HS.out).mono ?_
    rintro e w3 ⟨rfl, hb⟩
    exact ⟨_, rfl, hb.below, rfl⟩
  refine rg_val (.bool false) Grows.refl rfl (fun a w hr hs => on_guard (g := 15) (t := 45) rfl rfl (hs.get 10 rfl (by kernel_rfl) rfl)) ?_ ?_
  · intro a w' hr hs
    have h55 := hs.get 0 rfl (by kernel_rfl) rfl
    simp only at h55
    go_simp
  refine rg_val (.bool false) Grows.refl rfl (fun _ _ _ _ => wanted_none rfl) ?_ ?_
  · intro a w' hr hs
    have h45 := hs.get 11 rfl (by kernel_rfl) rfl
    have h56 := hs.get 0 rfl (by kernel_rfl) rfl
    simp only at h45 h56
    go_simp
  refine rg_val (.bool false) Grows.refl rfl (fun _ _ _ _ => wanted_none rfl) ?_ ?_
  · intro a w' hr hs
    have h57 := hs.get 0 rfl (by kernel_rfl) rfl
    simp only at h57
    go_simp
  refine rg_val (.slice A6 l.length c6) Grows.refl rfl (fun a w hr hs => on_guard (g := 28) (t := 58) rfl rfl (hs.get 0 rfl (by kernel_rfl) rfl)) ?_ ?_
  · intro a w' hr hs
    have h6 := hs.out 6 (by kernel_rfl)
    simp only at h6
    go_simp
  refine rg_val (.int .i64 (m : Int)) Grows.refl rfl (fun a w hr hs => on_guard (g := 28) (t := 58) rfl rfl (hs.get 1 rfl (by kernel_rfl) rfl)) ?_ ?_
  · intro a w' hr hs
    have h1 := hs.out 1 (by kernel_rfl)
    simp only at h1
    go_simp
  refine rg_val (.slice A6 lt.length c6) Grows.refl rfl (fun a w hr hs => on_guard (g := 28) (t := 58) rfl rfl (hs.get 2 rfl (by kernel_rfl) rfl)) ?_ ?_
  · intro a w' hr hs
    have h59 := hs.get 1 rfl (by kernel_rfl) rfl
    have h60 := hs.get 0 rfl (by kernel_rfl) rfl
    simp only at h59 h60
    go_simp
    intro hno; omega
  refine rg_val (.slice A6 l.length c6) Grows.refl rfl (fun a w hr hs => on_guard (g := 28) (t := 58) rfl rfl (hs.get 3 rfl (by kernel_rfl) rfl)) ?_ ?_
  · intro a w' hr hs
    have h6 := hs.out 6 (by kernel_rfl)
    simp only at h6
    go_simp
  refine rg_val (.int .i64 (m : Int)) Grows.refl rfl (fun a w hr hs => on_guard (g := 28) (t := 58) rfl rfl (hs.get 4 rfl (by kernel_rfl) rfl)) ?_ ?_
  · intro a w' hr hs
    have h1 := hs.out 1 (by kernel_rfl)
    simp only at h1
    go_simp
  refine rg_val (.slice A8 ld.length (c6 - m)) Grows.refl rfl (fun a w hr hs => on_guard (g := 28) (t := 58) rfl rfl (hs.get 5 rfl (by kernel_rfl) rfl)) ?_ ?_
  · intro a w' hr hs
    have h62 := hs.get 1 rfl (by kernel_rfl) rfl
    have h63 := hs.get 0 rfl (by kernel_rfl) rfl
    simp only at h62 h63
    have hA := HA8.out
    go_simp
  refine rg_call (Rowed k37 nd) (fun _ _ _ hg hx => hx.grows hg) rfl rfl Try.func21 (by kernel_rfl) rfl (fun a w hr hs => on_guard (g := 28) (t := 58) rfl rfl (hs.get 6 rfl (by kernel_rfl) rfl)) ?_ ?_
  · intro a w' hr hs
    have h64 := hs.get 0 rfl (by kernel_rfl) rfl
    simp only at h64
    rw [show (#[Operand.tmp 64] : Array Operand).map a.eval = #[.slice A8 ld.length (c6 - m)] by simp [Act.eval, h64]]
    refine (chain_Norm.calls A8 (c6 - m) ld nd _ (HLD6 hr) (by omega) HND.out).mono ?_
    rintro e w3 ⟨v, rfl, hR, hb⟩
    exact ⟨_, rfl, hb, Kd.R_reads hR⟩
  refine rg_call (Rowed k37 n) (fun _ _ _ hg hx => hx.grows hg) rfl rfl Try.func23 (by kernel_rfl) rfl (fun a w hr hs => on_guard (g := 28) (t := 58) rfl rfl (hs.get 7 rfl (by kernel_rfl) rfl)) ?_ ?_
  · intro a w' hr hs
    have h61 := hs.get 4 rfl (by kernel_rfl) rfl
    obtain ⟨A65, c65, h65, hc65, hC65⟩ := hs.get 0 rfl (by kernel_rfl) rfl
    simp only at h61
    rw [show (#[Operand.tmp 61, Operand.tmp 65] : Array Operand).map a.eval = #[.slice A6 lt.length c6, .slice A65 (nd).length c65] by simp [Act.eval, h61, h65]]
    refine (chain_Merge.calls (fun k_ => k_ < w'.heap.size) A6 c6 lt (fun k_ => k_ < w'.heap.size) A65 c65 nd n w' (Kd.V_mk (Nat.le_trans hlt1 hc6) (Kd.C_F k37_heap (HLT6 hr))) (Kd.V_mk hc65 (Kd.C_F k37_heap hC65)) HM2.out).mono ?_
    rintro e w3 ⟨v, rfl, hR, hb⟩
    exact ⟨_, rfl, hb, Kd.R_reads hR⟩
  refine rg_val (.slice A7 n.length c7) Grows.refl rfl (fun a w hr hs => on_guard (g := 28) (t := 58) rfl rfl (hs.get 8 rfl (by kernel_rfl) rfl)) ?_ ?_
  · intro a w' hr hs
    have h7 := hs.out 7 (by kernel_rfl)
    simp only at h7
    go_simp
  refine rg_call (fun v _ => v = .bool true) (fun _ _ _ _ h => h) rfl rfl Try.func20 (by kernel_rfl) rfl (fun a w hr hs => on_guard (g := 28) (t := 58) rfl rfl (hs.get 9 rfl (by kernel_rfl) rfl)) ?_ ?_
  · intro a w' hr hs
    obtain ⟨A66, c66, h66, hc66, hC66⟩ := hs.get 1 rfl (by kernel_rfl) rfl
    have h67 := hs.get 0 rfl (by kernel_rfl) rfl
    simp only at h67
    rw [show (#[Operand.tmp 66, Operand.tmp 67] : Array Operand).map a.eval = #[.slice A66 (n).length c66, .slice A7 n.length c7] by simp [Act.eval, h66, h67]]
    refine (chaperonkit_SameLayers.calls 62 A66 c66 n A7 c7 n true w' hC66 hc66 (Kd.C_below HC7.out hr) hc7 HS.out).mono ?_
    rintro e w3 ⟨rfl, hb⟩
    exact ⟨_, rfl, hb.below, rfl⟩
  refine rg_val (.bool false) Grows.refl rfl (fun a w hr hs => on_guard (g := 28) (t := 58) rfl rfl (hs.get 10 rfl (by kernel_rfl) rfl)) ?_ ?_
  · intro a w' hr hs
    have h68 := hs.get 0 rfl (by kernel_rfl) rfl
    simp only at h68
    go_simp
  refine rg_val (.bool false) Grows.refl rfl (fun _ _ _ _ => wanted_none rfl) ?_ ?_
  · intro a w' hr hs
    have h58 := hs.get 11 rfl (by kernel_rfl) rfl
    have h69 := hs.get 0 rfl (by kernel_rfl) rfl
    simp only at h58 h69
    go_simp
  intro vs w6 hr hE
  have e40 : vs 40 = .bool false := hE _ (.head _)
  have HB6 := Aside0.mk (HB5.out.trans (Below.mono (Below.trans (Below.refl w5.heap.size w5).drew hr) HB5.out.size))
  have HC6b := Aside0.mk (Kd.C_below HC6.out hr)
  have HC7b := Aside0.mk (Kd.C_below HC7.out hr)
  clear hE hr HB5 HC6 HC7 HLT6 HLD6
  rw [show List.range 41 = [0, 1, 2, 3, 4, 5, 6, 7, 8, 9, 10, 11, 12, 13, 14, 15, 16, 17, 18, 19, 20, 21, 22, 23, 24, 25, 26, 27, 28, 29, 30, 31, 32, 33, 34, 35, 36, 37, 38, 39, 40] from rfl]
  simp only [putL, slotOf, List.getElem?_toArray, List.getElem?_cons_succ, List.getElem?_cons_zero, Option.bind_some, Act.put, List.setIfInBounds_toArray, List.set_cons_succ, List.set_cons_zero, e40]
  refine tail_end ?_
  clear e40
  go_wp2_with fail
  go_loopw [10, 11] (fun v10 v11 wr => ∃ i : Nat, i ≤ l.length ∧ v11 = .int .i64 i ∧ Aside0 (Grows w6 wr ∧ Rowed k37 (norm fL (l.take i)) v10 wr))
    (fun _ v11 _ => l.length - (intOf v11).toNat)
  case atStart => exact ⟨0, Nat.zero_le _, rfl, ⟨Grows.refl _, ⟨none, 0, rfl, Nat.le_refl _, Kd.C_nil _ _⟩⟩⟩
  case round =>
    obtain ⟨i, hi, rfl, ⟨hg, hrow⟩⟩ := hrel
    have HG := Aside0.mk hg
    obtain ⟨Ag, cg, rfl, hcg, hCg⟩ := hrow
    have HCG := Aside0.mk hCg
    have HLG := Aside0.mk (norm_len fL (l.take i))
    clear hg hCg
    by_cases hlt3 : i < l.length
    · obtain ⟨ad, hA, x0, x1, x2⟩ := at_T37 (Kd.C_below HC6b.out HG.out) (i : Int) (by omega) (by omega)
      rw [rdT l i hlt3, Int.toNat_natCast] at x0 x1 x2
      obtain ⟨x, hxx⟩ : ∃ x, x = l[i] := ⟨_, rfl⟩
      rw [← hxx] at x0 x1 x2
      have HSN := Aside0.mk (show norm fL (norm fL (l.take i) ++ [x]) = norm fL (l.take (i + 1)) by
        have := norm_frame (f0 := fL) (f := fL) (g := fun x => x) (fun x y h => h) [] [x] (l.take i)
        simp only [List.map_id', List.nil_append] at this
        rw [this, List.take_add_one, List.getElem?_eq_getElem hlt3, hxx]
        rfl)
      clear hxx
      subst hA
      go_wp2_with fail
      refine (chain_Add.calls Ag cg (norm fL (l.take i)) x.f0 x.f1 x.f2 (norm fL (l.take (i + 1))) wr HCG.out hcg (by rw [add_is _ x (by have := HLG.out; rw [List.length_take] at this; omega), HSN.out])).mono ?_
      rintro e w7 ⟨v, rfl, hR7, hb7⟩
      have HG7 := Aside0.mk (HG.out.trans hb7)
      have HR7 := Aside0.mk (Kd.R_reads hR7)
      clear hR7 hb7
      go_wp2_with fail
      go_roundw
      case rel => exact ⟨i + 1, by omega, by go_num, ⟨HG7.out, HR7.out⟩⟩
      case measure => simp [intOf]; omega
    · have hiN : i = l.length := by omega
      have HI := Aside0.mk hiN
      have hgn : norm fL (l.take i) = n := by rw [hiN, List.take_length, HN.out]
      rw [hgn] at hcg ⊢
      have HCG2 := Aside0.mk (hgn ▸ HCG.out)
      have HC6c := Aside0.mk (Kd.C_below HC6b.out HG.out)
      have HC7c := Aside0.mk (Kd.C_below HC7b.out HG.out)
      have HB7 := Aside0.mk (HB6.out.trans (HG.out.mono HB6.out.size))
      clear HCG HLG HC6b HC7b HG HB6 hiN hgn
      go_wp2_with fail
      refine (chaperonkit_SameLayers.calls 62 Ag cg n A7 c7 n true wr HCG2.out hcg HC7c.out hc7 HS.out).mono ?_
      rintro e w8 ⟨rfl, hb8⟩
      have HC6d := Aside0.mk (Kd.C_below HC6c.out hb8.below)
      have HC7d := Aside0.mk (Kd.C_below HC7c.out hb8.below)
      have HB8 := Aside0.mk (HB7.out.trans (hb8.below.mono HB7.out.size))
      clear hb8 HC6c HC7c HB7 HCG2
      obtain ⟨sx, hs1, hs2⟩ := seen_norm ⟨#[88]⟩ l (by omega)
      rw [← HN.out] at hs2
      have HS1 := Aside0.mk hs1
      have HS2 := Aside0.mk hs2
      clear hs1 hs2
      go_wp2_with fail
      refine (chain_Seen.calls ⟨#[88]⟩ A6 c6 l sx w8 HC6d.out hc6 HS1.out).mono ?_
      rintro e w9 ⟨rfl, hb9⟩
      have HC6e := Aside0.mk (Kd.C_below HC6d.out hb9.below)
      have HC7e := Aside0.mk (Kd.C_below HC7d.out hb9.below)
      have HB9 := Aside0.mk (HB8.out.trans (hb9.below.mono HB8.out.size))
      clear hb9 HC6d HC7d HB8
      go_wp2_with fail
      refine (chain_Seen.calls ⟨#[88]⟩ A7 c7 n sx w9 HC7e.out hc7 HS2.out).mono ?_
      rintro e w10 ⟨rfl, hb10⟩
      have HC6f := Aside0.mk (Kd.C_below HC6e.out hb10.below)
      have HC7f := Aside0.mk (Kd.C_below HC7e.out hb10.below)
      have HB10 := Aside0.mk (HB9.out.trans (hb10.below.mono HB9.out.size))
      clear hb10 HC6e HC7e HB9
      go_wp2_with fail
      obtain ⟨cl, hcl⟩ : ∃ x, x = cls [⟨#[88]⟩] l := ⟨_, rfl⟩
      have hcll : cl.length < 4294967296 := by have := cls_len l [⟨#[88]⟩]; rw [← hcl] at this; simp at this; omega
      obtain ⟨K1, hK1⟩ := classes_ev ⟨#[88]⟩ l (by omega)
      obtain ⟨K2, hK2⟩ := classes_ev ⟨#[88]⟩ n (by omega)
      obtain ⟨K3, hK3⟩ := sameT_ev (l := cl) hcll rfl
      have HK1 := Aside0.mk (hcl ▸ hK1 K1 (Nat.le_refl _) : chain_Classes.f K1 ⟨#[88]⟩ l = some cl)
      have HK2 := Aside0.mk (show chain_Classes.f K2 ⟨#[88]⟩ n = some cl from (hK2 K2 (Nat.le_refl _)).trans (by rw [HN.out, cls_norm, hcl]))
      have HK3 := Aside0.mk (hK3 K3 (Nat.le_refl _))
      clear hcl hK1 hK2 hK3 hcll
      refine (chain_Classes.calls K1 ⟨#[88]⟩ A6 c6 l cl w10 HC6f.out hc6 HK1.out).mono ?_
      rintro e w11 ⟨v, rfl, hR11, hb11⟩
      obtain ⟨Aa, ca, rfl, hca, hCa⟩ := Kd.R_reads hR11
      have HC6g := Aside0.mk (Kd.C_below HC6f.out hb11)
      have HC7g := Aside0.mk (Kd.C_below HC7f.out hb11)
      have HB11 := Aside0.mk (HB10.out.trans (hb11.mono HB10.out.size))
      have HCa := Aside0.mk hCa
      clear hb11 HC6f HC7f HB10 hR11 hCa
      go_wp2_with fail
      refine (chain_Classes.calls K2 ⟨#[88]⟩ A7 c7 n cl w11 HC7g.out hc7 HK2.out).mono ?_
      rintro e w12 ⟨v, rfl, hR12, hb12⟩
      obtain ⟨Ab, cb, rfl, hcb, hCb⟩ := Kd.R_reads hR12
      have HC6h := Aside0.mk (Kd.C_below HC6g.out hb12)
      have HC7h := Aside0.mk (Kd.C_below HC7g.out hb12)
      have HB12 := Aside0.mk (HB11.out.trans (hb12.mono HB11.out.size))
      have HCa2 := Aside0.mk (Kd.C_below HCa.out hb12)
      have HCb := Aside0.mk hCb
      clear hb12 HC6g HC7g HB11 hR12 hCb HCa
      go_wp2_with fail
      refine (chaperonkit_SameTexts.calls K3 Aa ca cl Ab cb cl true w12 HCa2.out hca HCb.out hcb HK3.out).mono ?_
      rintro e w13 ⟨rfl, hb13⟩
      have HC6i := Aside0.mk (Kd.C_below HC6h.out hb13.below)
      have HC7i := Aside0.mk (Kd.C_below HC7h.out hb13.below)
      have HB13 := Aside0.mk (HB12.out.trans (hb13.below.mono HB12.out.size))
      clear hb13 HC6h HC7h HB12 HCa2 HCb
      go_wp2_with fail
      have HC6 := Aside0.mk (Kd.C_drew HC6i.out)
      have HC7 := Aside0.mk (Kd.C_drew HC7i.out)
      clear HC6i HC7i
      by_cases hnil : l = []
      · have hl0 : l.length = 0 := by rw [hnil]; rfl
        have hn0 : n.length = 0 := by omega
        clear hnil
        refine rg_region (N := 147) 46 Grows (by kernel_rfl) (by kernel_rfl) rfl Grows.refl Grows.trans ?_
        rw [show List.range 46 = [0, 1, 2, 3, 4, 5, 6, 7, 8, 9, 10, 11, 12, 13, 14, 15, 16, 17, 18, 19, 20, 21, 22, 23, 24, 25, 26, 27, 28, 29, 30, 31, 32, 33, 34, 35, 36, 37, 38, 39, 40, 41, 42, 43, 44, 45] from rfl]
        refine rg_val (.bool true) Grows.refl rfl (fun _ _ _ _ => wanted_none rfl) ?_ ?_
        · intro a w' hr hs
          have h5 := hs.out 5 (by kernel_rfl)
          simp only at h5
          go_simp
        refine rg_val (.bool true) Grows.refl rfl (fun _ _ _ _ => wanted_none rfl) ?_ ?_
        · intro a w' hr hs
          have h102 := hs.get 0 rfl (by kernel_rfl) rfl
          simp only at h102
          go_simp
        refine rg_val (.slice A6 l.length c6) Grows.refl rfl (fun a w hr hs => on_guard (g := 1) (t := 103) rfl rfl (hs.get 0 rfl (by kernel_rfl) rfl)) ?_ ?_
        · intro a w' hr hs
          have h6 := hs.out 6 (by kernel_rfl)
          simp only at h6
          go_simp
        refine rg_val (.int .i64 (l.length : Nat)) Grows.refl rfl (fun a w hr hs => on_guard (g := 1) (t := 103) rfl rfl (hs.get 1 rfl (by kernel_rfl) rfl)) ?_ ?_
        · intro a w' hr hs
          have h104 := hs.get 0 rfl (by kernel_rfl) rfl
          simp only at h104
          go_simp
        refine rg_val (.bool true) Grows.refl rfl (fun a w hr hs => on_guard (g := 1) (t := 103) rfl rfl (hs.get 2 rfl (by kernel_rfl) rfl)) ?_ ?_
        · intro a w' hr hs
          have h105 := hs.get 0 rfl (by kernel_rfl) rfl
          simp only at h105
          go_simp
        refine rg_val (.bool true) Grows.refl rfl (fun a w hr hs => on_guard (g := 1) (t := 103) rfl rfl (hs.get 3 rfl (by kernel_rfl) rfl)) ?_ ?_
        · intro a w' hr hs
          have h106 := hs.get 0 rfl (by kernel_rfl) rfl
          simp only at h106
          go_simp
        refine rg_val (.slice A7 n.length c7) Grows.refl rfl (fun a w hr hs => on_guard (g := 5) (t := 107) rfl rfl (hs.get 0 rfl (by kernel_rfl) rfl)) ?_ ?_
        · intro a w' hr hs
          have h7 := hs.out 7 (by kernel_rfl)
          simp only at h7
          go_simp
        refine rg_val (.int .i64 (n.length : Nat)) Grows.refl rfl (fun a w hr hs => on_guard (g := 5) (t := 107) rfl rfl (hs.get 1 rfl (by kernel_rfl) rfl)) ?_ ?_
        · intro a w' hr hs
          have h108 := hs.get 0 rfl (by kernel_rfl) rfl
          simp only at h108
          go_simp
        refine rg_val (.bool true) Grows.refl rfl (fun a w hr hs => on_guard (g := 5) (t := 107) rfl rfl (hs.get 2 rfl (by kernel_rfl) rfl)) ?_ ?_
        · intro a w' hr hs
          have h109 := hs.get 0 rfl (by kernel_rfl) rfl
          simp only at h109
          go_simp
        refine rg_val (.bool true) Grows.refl rfl (fun a w hr hs => on_guard (g := 1) (t := 103) rfl rfl (hs.get 7 rfl (by kernel_rfl) rfl)) ?_ ?_
        · intro a w' hr hs
          have h107 := hs.get 3 rfl (by kernel_rfl) rfl
          have h110 := hs.get 0 rfl (by kernel_rfl) rfl
          simp only at h107 h110
          go_simp
        refine rg_val (.bool true) Grows.refl rfl (fun a w hr hs => on_guard (g := 1) (t := 103) rfl rfl (hs.get 8 rfl (by kernel_rfl) rfl)) ?_ ?_
        · intro a w' hr hs
          have h111 := hs.get 0 rfl (by kernel_rfl) rfl
          simp only at h111
          go_simp
        refine rg_off rfl (fun a w hr hs => (of_guard (g := 10) (t := 112) (b' := true) rfl rfl (hs.get 0 rfl (by kernel_rfl) rfl)).trans rfl) ?_
        refine rg_off rfl (fun a w hr hs => (of_guard (g := 10) (t := 112) (b' := true) rfl rfl (hs.get 1 rfl (by kernel_rfl) rfl)).trans rfl) ?_
        refine rg_off rfl (fun a w hr hs => (of_guard (g := 10) (t := 112) (b' := true) rfl rfl (hs.get 2 rfl (by kernel_rfl) rfl)).trans rfl) ?_
        refine rg_off rfl (fun a w hr hs => (of_guard (g := 10) (t := 112) (b' := true) rfl rfl (hs.get 3 rfl (by kernel_rfl) rfl)).trans rfl) ?_
        refine rg_off rfl (fun a w hr hs => off_guard (g := 14) (t := 116) rfl rfl (hs.get 0 rfl (by kernel_rfl) rfl)) ?_
        refine rg_off rfl (fun a w hr hs => off_guard (g := 14) (t := 116) rfl rfl (hs.get 1 rfl (by kernel_rfl) rfl)) ?_
        refine rg_off rfl (fun a w hr hs => off_guard (g := 14) (t := 116) rfl rfl (hs.get 2 rfl (by kernel_rfl) rfl)) ?_
        refine rg_off rfl (fun a w hr hs => (of_guard (g := 10) (t := 112) (b' := true) rfl rfl (hs.get 7 rfl (by kernel_rfl) rfl)).trans rfl) ?_
        refine rg_off rfl (fun a w hr hs => (of_guard (g := 10) (t := 112) (b' := true) rfl rfl (hs.get 8 rfl (by kernel_rfl) rfl)).trans rfl) ?_
        refine rg_off rfl (fun a w hr hs => off_guard (g := 19) (t := 121) rfl rfl (hs.get 0 rfl (by kernel_rfl) rfl)) ?_
        refine rg_off rfl (fun a w hr hs => off_guard (g := 19) (t := 121) rfl rfl (hs.get 1 rfl (by kernel_rfl) rfl)) ?_
        refine rg_off rfl (fun a w hr hs => off_guard (g := 19) (t := 121) rfl rfl (hs.get 2 rfl (by kernel_rfl) rfl)) ?_
        refine rg_off rfl (fun a w hr hs => off_guard (g := 19) (t := 121) rfl rfl (hs.get 3 rfl (by kernel_rfl) rfl)) ?_
        refine rg_off rfl (fun a w hr hs => off_guard (g := 19) (t := 121) rfl rfl (hs.get 4 rfl (by kernel_rfl) rfl)) ?_
        refine rg_off rfl (fun a w hr hs => off_guard (g := 19) (t := 121) rfl rfl (hs.get 5 rfl (by kernel_rfl) rfl)) ?_
        refine rg_off rfl (fun a w hr hs => off_guard (g := 19) (t := 121) rfl rfl (hs.get 6 rfl (by kernel_rfl) rfl)) ?_
        refine rg_off rfl (fun a w hr hs => (of_guard (g := 10) (t := 112) (b' := true) rfl rfl (hs.get 16 rfl (by kernel_rfl) rfl)).trans rfl) ?_
        refine rg_off rfl (fun a w hr hs => (of_guard (g := 10) (t := 112) (b' := true) rfl rfl (hs.get 17 rfl (by kernel_rfl) rfl)).trans rfl) ?_
        refine rg_off rfl (fun a w hr hs => off_guard (g := 28) (t := 130) rfl rfl (hs.get 0 rfl (by kernel_rfl) rfl)) ?_
        refine rg_off rfl (fun a w hr hs => off_guard (g := 28) (t := 130) rfl rfl (hs.get 1 rfl (by kernel_rfl) rfl)) ?_
        refine rg_off rfl (fun a w hr hs => off_guard (g := 28) (t := 130) rfl rfl (hs.get 2 rfl (by kernel_rfl) rfl)) ?_
        refine rg_off rfl (fun a w hr hs => off_guard (g := 28) (t := 130) rfl rfl (hs.get 3 rfl (by kernel_rfl) rfl)) ?_
        refine rg_off rfl (fun a w hr hs => off_guard (g := 28) (t := 130) rfl rfl (hs.get 4 rfl (by kernel_rfl) rfl)) ?_
        refine rg_off rfl (fun a w hr hs => off_guard (g := 28) (t := 130) rfl rfl (hs.get 5 rfl (by kernel_rfl) rfl)) ?_
        refine rg_off rfl (fun a w hr hs => off_guard (g := 28) (t := 130) rfl rfl (hs.get 6 rfl (by kernel_rfl) rfl)) ?_
        refine rg_off rfl (fun a w hr hs => off_guard (g := 28) (t := 130) rfl rfl (hs.get 7 rfl (by kernel_rfl) rfl)) ?_
        refine rg_off rfl (fun a w hr hs => off_guard (g := 28) (t := 130) rfl rfl (hs.get 8 rfl (by kernel_rfl) rfl)) ?_
        refine rg_off rfl (fun a w hr hs => off_guard (g := 28) (t := 130) rfl rfl (hs.get 9 rfl (by kernel_rfl) rfl)) ?_
        refine rg_off rfl (fun a w hr hs => off_guard (g := 28) (t := 130) rfl rfl (hs.get 10 rfl (by kernel_rfl) rfl)) ?_
        refine rg_off rfl (fun a w hr hs => off_guard (g := 28) (t := 130) rfl rfl (hs.get 11 rfl (by kernel_rfl) rfl)) ?_
        refine rg_off rfl (fun a w hr hs => off_guard (g := 28) (t := 130) rfl rfl (hs.get 12 rfl (by kernel_rfl) rfl)) ?_
        refine rg_off rfl (fun a w hr hs => (of_guard (g := 10) (t := 112) (b' := true) rfl rfl (hs.get 31 rfl (by kernel_rfl) rfl)).trans rfl) ?_
        refine rg_val (.bool true) Grows.refl rfl (fun a w hr hs => on_guard (g := 1) (t := 103) rfl rfl (hs.get 41 rfl (by kernel_rfl) rfl)) ?_ ?_
        · intro a w' hr hs
          have h112 := hs.get 32 rfl (by kernel_rfl) rfl
          simp only at h112
          go_simp
        refine rg_val (.bool true) Grows.refl rfl (fun _ _ _ _ => wanted_none rfl) ?_ ?_
        · intro a w' hr hs
          have h103 := hs.get 42 rfl (by kernel_rfl) rfl
          have h145 := hs.get 0 rfl (by kernel_rfl) rfl
          simp only at h103 h145
          go_simp
        refine rg_val (.bool true) Grows.refl rfl (fun _ _ _ _ => wanted_none rfl) ?_ ?_
        · intro a w' hr hs
          have h146 := hs.get 0 rfl (by kernel_rfl) rfl
          simp only at h146
          go_simp
        intro vs w14 hr hE
        have e45 : vs 45 = .bool true := hE _ (.head _)
        have HB14 := Aside0.mk (HB13.out.trans (Below.mono (Below.trans (Below.refl w13.heap.size w13).drew hr) HB13.out.size))
        clear hE hr
        rw [show List.range 46 = [0, 1, 2, 3, 4, 5, 6, 7, 8, 9, 10, 11, 12, 13, 14, 15, 16, 17, 18, 19, 20, 21, 22, 23, 24, 25, 26, 27, 28, 29, 30, 31, 32, 33, 34, 35, 36, 37, 38, 39, 40, 41, 42, 43, 44, 45] from rfl]
        simp only [putL, slotOf, List.getElem?_toArray, List.getElem?_cons_succ, List.getElem?_cons_zero, Option.bind_some, Act.put, List.setIfInBounds_toArray, List.set_cons_succ, List.set_cons_zero, e45]
        refine tail_end ?_
        go_wp2_with fail
        go_ret
        exact ⟨rfl, HB14.out⟩
      · obtain ⟨hne, hf1, hf2⟩ := norm_ends l hnil
        rw [← HN.out] at hne hf1 hf2
        obtain ⟨jl, hjl⟩ : ∃ j, l.length = j + 1 := ⟨l.length - 1, by have := List.length_pos_iff.2 hnil; omega⟩
        obtain ⟨jn, hjn⟩ : ∃ j, n.length = j + 1 := ⟨n.length - 1, by have := List.length_pos_iff.2 hne; omega⟩
        rw [hjl, hjn, Nat.add_sub_cancel, Nat.add_sub_cancel] at hf2
        obtain ⟨x, hx⟩ : ∃ x, x = l[0]'(by omega) := ⟨_, rfl⟩
        obtain ⟨y, hy⟩ : ∃ y, y = l[jl]'(by omega) := ⟨_, rfl⟩
        have HX6 := Aside0.mk (show rd_T37 l ((0 : Nat) : Int) = x by rw [rdT l 0 (by omega), hx])
        have HY6 := Aside0.mk (show rd_T37 l (jl : Int) = y by rw [rdT l jl (by omega), hy])
        have HX7 := Aside0.mk (show rd_T37 n ((0 : Nat) : Int) = x by
          rw [rdT n 0 (by omega), hx]
          rw [List.getElem?_eq_getElem (by omega), List.getElem?_eq_getElem (by omega)] at hf1
          exact Option.some.inj hf1)
        have HY7 := Aside0.mk (show rd_T37 n (jn : Int) = y by
          rw [rdT n jn (by omega), hy]
          rw [List.getElem?_eq_getElem (by omega), List.getElem?_eq_getElem (by omega)] at hf2
          exact Option.some.inj hf2)
        clear hx hy hf1 hf2 hne hnil
        obtain ⟨ad6, hA6, _⟩ := at_T37 HC6.out 0 (by omega) (by omega)
        obtain ⟨ad7, hA7, _⟩ := at_T37 HC7.out 0 (by omega) (by omega)
        subst hA6 hA7
        refine rg_region (N := 147) 46 Grows (by kernel_rfl) (by kernel_rfl) rfl Grows.refl Grows.trans ?_
        rw [show List.range 46 = [0, 1, 2, 3, 4, 5, 6, 7, 8, 9, 10, 11, 12, 13, 14, 15, 16, 17, 18, 19, 20, 21, 22, 23, 24, 25, 26, 27, 28, 29, 30, 31, 32, 33, 34, 35, 36, 37, 38, 39, 40, 41, 42, 43, 44, 45] from rfl]
        refine rg_val (.bool true) Grows.refl rfl (fun _ _ _ _ => wanted_none rfl) ?_ ?_
        · intro a w' hr hs
          have h5 := hs.out 5 (by kernel_rfl)
          simp only at h5
          go_simp
        refine rg_val (.bool true) Grows.refl rfl (fun _ _ _ _ => wanted_none rfl) ?_ ?_
        · intro a w' hr hs
          have h102 := hs.get 0 rfl (by kernel_rfl) rfl
          simp only at h102
          go_simp
        refine rg_val (.slice (some ad6) l.length c6) Grows.refl rfl (fun a w hr hs => on_guard (g := 1) (t := 103) rfl rfl (hs.get 0 rfl (by kernel_rfl) rfl)) ?_ ?_
        · intro a w' hr hs
          have h6 := hs.out 6 (by kernel_rfl)
          simp only at h6
          go_simp
        refine rg_val (.int .i64 (l.length : Nat)) Grows.refl rfl (fun a w hr hs => on_guard (g := 1) (t := 103) rfl rfl (hs.get 1 rfl (by kernel_rfl) rfl)) ?_ ?_
        · intro a w' hr hs
          have h104 := hs.get 0 rfl (by kernel_rfl) rfl
          simp only at h104
          go_simp
        refine rg_val (.bool false) Grows.refl rfl (fun a w hr hs => on_guard (g := 1) (t := 103) rfl rfl (hs.get 2 rfl (by kernel_rfl) rfl)) ?_ ?_
        · intro a w' hr hs
          have h105 := hs.get 0 rfl (by kernel_rfl) rfl
          simp only at h105
          go_simp
          omega
        refine rg_val (.bool false) Grows.refl rfl (fun a w hr hs => on_guard (g := 1) (t := 103) rfl rfl (hs.get 3 rfl (by kernel_rfl) rfl)) ?_ ?_
        · intro a w' hr hs
          have h106 := hs.get 0 rfl (by kernel_rfl) rfl
          simp only at h106
          go_simp
        refine rg_off rfl (fun a w hr hs => (of_guard (g := 5) (t := 107) (b' := false) rfl rfl (hs.get 0 rfl (by kernel_rfl) rfl)).trans rfl) ?_
        refine rg_off rfl (fun a w hr hs => (of_guard (g := 5) (t := 107) (b' := false) rfl rfl (hs.get 1 rfl (by kernel_rfl) rfl)).trans rfl) ?_
        refine rg_off rfl (fun a w hr hs => (of_guard (g := 5) (t := 107) (b' := false) rfl rfl (hs.get 2 rfl (by kernel_rfl) rfl)).trans rfl) ?_
        refine rg_val (.bool false) Grows.refl rfl (fun a w hr hs => on_guard (g := 1) (t := 103) rfl rfl (hs.get 7 rfl (by kernel_rfl) rfl)) ?_ ?_
        · intro a w' hr hs
          have h107 := hs.get 3 rfl (by kernel_rfl) rfl
          simp only at h107
          go_simp
        refine rg_val (.bool false) Grows.refl rfl (fun a w hr hs => on_guard (g := 1) (t := 103) rfl rfl (hs.get 8 rfl (by kernel_rfl) rfl)) ?_ ?_
        · intro a w' hr hs
          have h111 := hs.get 0 rfl (by kernel_rfl) rfl
          simp only at h111
          go_simp
        refine rg_val (.slice (some ad6) l.length c6) Grows.refl rfl (fun a w hr hs => on_guard (g := 10) (t := 112) rfl rfl (hs.get 0 rfl (by kernel_rfl) rfl)) ?_ ?_
        · intro a w' hr hs
          have h6 := hs.out 6 (by kernel_rfl)
          simp only at h6
          go_simp
        refine rg_val (.int .i64 (l.length : Nat)) Grows.refl rfl (fun a w hr hs => on_guard (g := 10) (t := 112) rfl rfl (hs.get 1 rfl (by kernel_rfl) rfl)) ?_ ?_
        · intro a w' hr hs
          have h113 := hs.get 0 rfl (by kernel_rfl) rfl
          simp only at h113
          go_simp
        refine rg_val (.bool true) Grows.refl rfl (fun a w hr hs => on_guard (g := 10) (t := 112) rfl rfl (hs.get 2 rfl (by kernel_rfl) rfl)) ?_ ?_
        · intro a w' hr hs
          have h114 := hs.get 0 rfl (by kernel_rfl) rfl
          simp only at h114
          go_simp
        refine rg_val (.bool true) Grows.refl rfl (fun a w hr hs => on_guard (g := 10) (t := 112) rfl rfl (hs.get 3 rfl (by kernel_rfl) rfl)) ?_ ?_
        · intro a w' hr hs
          have h115 := hs.get 0 rfl (by kernel_rfl) rfl
          simp only at h115
          go_simp
        refine rg_val (.slice (some ad7) n.length c7) Grows.refl rfl (fun a w hr hs => on_guard (g := 14) (t := 116) rfl rfl (hs.get 0 rfl (by kernel_rfl) rfl)) ?_ ?_
        · intro a w' hr hs
          have h7 := hs.out 7 (by kernel_rfl)
          simp only at h7
          go_simp
        refine rg_val (.int .i64 (n.length : Nat)) Grows.refl rfl (fun a w hr hs => on_guard (g := 14) (t := 116) rfl rfl (hs.get 1 rfl (by kernel_rfl) rfl)) ?_ ?_
        · intro a w' hr hs
          have h117 := hs.get 0 rfl (by kernel_rfl) rfl
          simp only at h117
          go_simp
        refine rg_val (.bool true) Grows.refl rfl (fun a w hr hs => on_guard (g := 14) (t := 116) rfl rfl (hs.get 2 rfl (by kernel_rfl) rfl)) ?_ ?_
        · intro a w' hr hs
          have h118 := hs.get 0 rfl (by kernel_rfl) rfl
          simp only at h118
          go_simp
        refine rg_val (.bool true) Grows.refl rfl (fun a w hr hs => on_guard (g := 10) (t := 112) rfl rfl (hs.get 7 rfl (by kernel_rfl) rfl)) ?_ ?_
        · intro a w' hr hs
          have h116 := hs.get 3 rfl (by kernel_rfl) rfl
          have h119 := hs.get 0 rfl (by kernel_rfl) rfl
          simp only at h116 h119
          go_simp
        refine rg_val (.bool true) Grows.refl rfl (fun a w hr hs => on_guard (g := 10) (t := 112) rfl rfl (hs.get 8 rfl (by kernel_rfl) rfl)) ?_ ?_
        · intro a w' hr hs
          have h120 := hs.get 0 rfl (by kernel_rfl) rfl
          simp only at h120
          go_simp
        refine rg_val (.slice (some ad7) n.length c7) Grows.refl rfl (fun a w hr hs => on_guard (g := 19) (t := 121) rfl rfl (hs.get 0 rfl (by kernel_rfl) rfl)) ?_ ?_
        · intro a w' hr hs
          have h7 := hs.out 7 (by kernel_rfl)
          simp only at h7
          go_simp
        refine rg_val (.pointer (some (ad7.add (0 * 3)))) Grows.refl rfl (fun a w hr hs => on_guard (g := 19) (t := 121) rfl rfl (hs.get 1 rfl (by kernel_rfl) rfl)) ?_ ?_
        · intro a w' hr hs
          have h122 := hs.get 0 rfl (by kernel_rfl) rfl
          simp only at h122
          go_simp
        refine rg_val (.agg #[.bool x.f0, .string x.f1, .int .i64 x.f2]) Grows.refl rfl (fun a w hr hs => on_guard (g := 19) (t := 121) rfl rfl (hs.get 2 rfl (by kernel_rfl) rfl)) ?_ ?_
        · intro a w' hr hs
          have h123 := hs.get 0 rfl (by kernel_rfl) rfl
          simp only at h123
          obtain ⟨ad', e1, x0, x1, x2⟩ := at_T37 (Kd.C_below HC7.out hr) ((0 : Nat) : Int) (by omega) (by omega)
          cases e1
          rw [HX7.out, Int.toNat_natCast] at x0 x1 x2
          obtain ⟨p, hp⟩ : ∃ p, p = ad7.add (0 * 3) := ⟨_, rfl⟩
          rw [← hp] at h123 x0 x1 x2
          clear hp
          go_simp
        refine rg_val (.slice (some ad6) l.length c6) Grows.refl rfl (fun a w hr hs => on_guard (g := 19) (t := 121) rfl rfl (hs.get 3 rfl (by kernel_rfl) rfl)) ?_ ?_
        · intro a w' hr hs
          have h6 := hs.out 6 (by kernel_rfl)
          simp only at h6
          go_simp
        refine rg_val (.pointer (some (ad6.add (0 * 3)))) Grows.refl rfl (fun a w hr hs => on_guard (g := 19) (t := 121) rfl rfl (hs.get 4 rfl (by kernel_rfl) rfl)) ?_ ?_
        · intro a w' hr hs
          have h125 := hs.get 0 rfl (by kernel_rfl) rfl
          simp only at h125
          go_simp
        refine rg_val (.agg #[.bool x.f0, .string x.f1, .int .i64 x.f2]) Grows.refl rfl (fun a w hr hs => on_guard (g := 19) (t := 121) rfl rfl (hs.get 5 rfl (by kernel_rfl) rfl)) ?_ ?_
        · intro a w' hr hs
          have h126 := hs.get 0 rfl (by kernel_rfl) rfl
          simp only at h126
          obtain ⟨ad', e1, x0, x1, x2⟩ := at_T37 (Kd.C_below HC6.out hr) ((0 : Nat) : Int) (by omega) (by omega)
          cases e1
          rw [HX6.out, Int.toNat_natCast] at x0 x1 x2
          obtain ⟨p, hp⟩ : ∃ p, p = ad6.add (0 * 3) := ⟨_, rfl⟩
          rw [← hp] at h126 x0 x1 x2
          clear hp
          go_simp
        refine rg_val (.bool true) Grows.refl rfl (fun a w hr hs => on_guard (g := 19) (t := 121) rfl rfl (hs.get 6 rfl (by kernel_rfl) rfl)) ?_ ?_
        · intro a w' hr hs
          have h124 := hs.get 3 rfl (by kernel_rfl) rfl
          have h127 := hs.get 0 rfl (by kernel_rfl) rfl
          simp only at h124 h127
          go_simp
        refine rg_val (.bool true) Grows.refl rfl (fun a w hr hs => on_guard (g := 10) (t := 112) rfl rfl (hs.get 16 rfl (by kernel_rfl) rfl)) ?_ ?_
        · intro a w' hr hs
          have h121 := hs.get 7 rfl (by kernel_rfl) rfl
          have h128 := hs.get 0 rfl (by kernel_rfl) rfl
          simp only at h121 h128
          go_simp
        refine rg_val (.bool true) Grows.refl rfl (fun a w hr hs => on_guard (g := 10) (t := 112) rfl rfl (hs.get 17 rfl (by kernel_rfl) rfl)) ?_ ?_
        · intro a w' hr hs
          have h129 := hs.get 0 rfl (by kernel_rfl) rfl
          simp only at h129
          go_simp
        refine rg_val (.slice (some ad7) n.length c7) Grows.refl rfl (fun a w hr hs => on_guard (g := 28) (t := 130) rfl rfl (hs.get 0 rfl (by kernel_rfl) rfl)) ?_ ?_
        · intro a w' hr hs
          have h7 := hs.out 7 (by kernel_rfl)
          simp only at h7
          go_simp
        refine rg_val (.slice (some ad7) n.length c7) Grows.refl rfl (fun a w hr hs => on_guard (g := 28) (t := 130) rfl rfl (hs.get 1 rfl (by kernel_rfl) rfl)) ?_ ?_
        · intro a w' hr hs
          have h7 := hs.out 7 (by kernel_rfl)
          simp only at h7
          go_simp
        refine rg_val (.int .i64 (n.length : Nat)) Grows.refl rfl (fun a w hr hs => on_guard (g := 28) (t := 130) rfl rfl (hs.get 2 rfl (by kernel_rfl) rfl)) ?_ ?_
        · intro a w' hr hs
          have h132 := hs.get 0 rfl (by kernel_rfl) rfl
          simp only at h132
          go_simp
        refine rg_val (.int .i64 (jn : Nat)) Grows.refl rfl (fun a w hr hs => on_guard (g := 28) (t := 130) rfl rfl (hs.get 3 rfl (by kernel_rfl) rfl)) ?_ ?_
        · intro a w' hr hs
          have h133 := hs.get 0 rfl (by kernel_rfl) rfl
          simp only at h133
          go_simp
          rw [IntKind.wrap_i64]; omega
        refine rg_val (.pointer (some (ad7.add (jn * 3)))) Grows.refl rfl (fun a w hr hs => on_guard (g := 28) (t := 130) rfl rfl (hs.get 4 rfl (by kernel_rfl) rfl)) ?_ ?_
        · intro a w' hr hs
          have h131 := hs.get 3 rfl (by kernel_rfl) rfl
          have h134 := hs.get 0 rfl (by kernel_rfl) rfl
          simp only at h131 h134
          go_simp
          intro hno; omega
        refine rg_val (.agg #[.bool y.f0, .string y.f1, .int .i64 y.f2]) Grows.refl rfl (fun a w hr hs => on_guard (g := 28) (t := 130) rfl rfl (hs.get 5 rfl (by kernel_rfl) rfl)) ?_ ?_
        · intro a w' hr hs
          have h135 := hs.get 0 rfl (by kernel_rfl) rfl
          simp only at h135
          obtain ⟨ad', e1, x0, x1, x2⟩ := at_T37 (Kd.C_below HC7.out hr) ((jn : Nat) : Int) (by omega) (by omega)
          cases e1
          rw [HY7.out, Int.toNat_natCast] at x0 x1 x2
          obtain ⟨p, hp⟩ : ∃ p, p = ad7.add (jn * 3) := ⟨_, rfl⟩
          rw [← hp] at h135 x0 x1 x2
          clear hp
          go_simp
        refine rg_val (.slice (some ad6) l.length c6) Grows.refl rfl (fun a w hr hs => on_guard (g := 28) (t := 130) rfl rfl (hs.get 6 rfl (by kernel_rfl) rfl)) ?_ ?_
        · intro a w' hr hs
          have h6 := hs.out 6 (by kernel_rfl)
          simp only at h6
          go_simp
        refine rg_val (.slice (some ad6) l.length c6) Grows.refl rfl (fun a w hr hs => on_guard (g := 28) (t := 130) rfl rfl (hs.get 7 rfl (by kernel_rfl) rfl)) ?_ ?_
        · intro a w' hr hs
          have h6 := hs.out 6 (by kernel_rfl)
          simp only at h6
          go_simp
        refine rg_val (.int .i64 (l.length : Nat)) Grows.refl rfl (fun a w hr hs => on_guard (g := 28) (t := 130) rfl rfl (hs.get 8 rfl (by kernel_rfl) rfl)) ?_ ?_
        · intro a w' hr hs
          have h138 := hs.get 0 rfl (by kernel_rfl) rfl
          simp only at h138
          go_simp
        refine rg_val (.int .i64 (jl : Nat)) Grows.refl rfl (fun a w hr hs => on_guard (g := 28) (t := 130) rfl rfl (hs.get 9 rfl (by kernel_rfl) rfl)) ?_ ?_
        · intro a w' hr hs
          have h139 := hs.get 0 rfl (by kernel_rfl) rfl
          simp only at h139
          go_simp
          rw [IntKind.wrap_i64]; omega
        refine rg_val (.pointer (some (ad6.add (jl * 3)))) Grows.refl rfl (fun a w hr hs => on_guard (g := 28) (t := 130) rfl rfl (hs.get 10 rfl (by kernel_rfl) rfl)) ?_ ?_
        · intro a w' hr hs
          have h137 := hs.get 3 rfl (by kernel_rfl) rfl
          have h140 := hs.get 0 rfl (by kernel_rfl) rfl
          simp only at h137 h140
          go_simp
          intro hno; omega
        refine rg_val (.agg #[.bool y.f0, .string y.f1, .int .i64 y.f2]) Grows.refl rfl (fun a w hr hs => on_guard (g := 28) (t := 130) rfl rfl (hs.get 11 rfl (by kernel_rfl) rfl)) ?_ ?_
        · intro a w' hr hs
          have h141 := hs.get 0 rfl (by kernel_rfl) rfl
          simp only at h141
          obtain ⟨ad', e1, x0, x1, x2⟩ := at_T37 (Kd.C_below HC6.out hr) ((jl : Nat) : Int) (by omega) (by omega)
          cases e1
          rw [HY6.out, Int.toNat_natCast] at x0 x1 x2
          obtain ⟨p, hp⟩ : ∃ p, p = ad6.add (jl * 3) := ⟨_, rfl⟩
          rw [← hp] at h141 x0 x1 x2
          clear hp
          go_simp
        refine rg_val (.bool true) Grows.refl rfl (fun a w hr hs => on_guard (g := 28) (t := 130) rfl rfl (hs.get 12 rfl (by kernel_rfl) rfl)) ?_ ?_
        · intro a w' hr hs
          have h136 := hs.get 6 rfl (by kernel_rfl) rfl
          have h142 := hs.get 0 rfl (by kernel_rfl) rfl
          simp only at h136 h142
          go_simp
        refine rg_val (.bool true) Grows.refl rfl (fun a w hr hs => on_guard (g := 10) (t := 112) rfl rfl (hs.get 31 rfl (by kernel_rfl) rfl)) ?_ ?_
        · intro a w' hr hs
          have h130 := hs.get 13 rfl (by kernel_rfl) rfl
          have h143 := hs.get 0 rfl (by kernel_rfl) rfl
          simp only at h130 h143
          go_simp
        refine rg_val (.bool true) Grows.refl rfl (fun a w hr hs => on_guard (g := 1) (t := 103) rfl rfl (hs.get 41 rfl (by kernel_rfl) rfl)) ?_ ?_
        · intro a w' hr hs
          have h112 := hs.get 32 rfl (by kernel_rfl) rfl
          have h144 := hs.get 0 rfl (by kernel_rfl) rfl
          simp only at h112 h144
          go_simp
        refine rg_val (.bool true) Grows.refl rfl (fun _ _ _ _ => wanted_none rfl) ?_ ?_
        · intro a w' hr hs
          have h103 := hs.get 42 rfl (by kernel_rfl) rfl
          have h145 := hs.get 0 rfl (by kernel_rfl) rfl
          simp only at h103 h145
          go_simp
        refine rg_val (.bool true) Grows.refl rfl (fun _ _ _ _ => wanted_none rfl) ?_ ?_
        · intro a w' hr hs
          have h146 := hs.get 0 rfl (by kernel_rfl) rfl
          simp only at h146
          go_simp
        intro vs w14 hr hE
        have e45 : vs 45 = .bool true := hE _ (.head _)
        have HB14 := Aside0.mk (HB13.out.trans (Below.mono (Below.trans (Below.refl w13.heap.size w13).drew hr) HB13.out.size))
        clear hE hr
        rw [show List.range 46 = [0, 1, 2, 3, 4, 5, 6, 7, 8, 9, 10, 11, 12, 13, 14, 15, 16, 17, 18, 19, 20, 21, 22, 23, 24, 25, 26, 27, 28, 29, 30, 31, 32, 33, 34, 35, 36, 37, 38, 39, 40, 41, 42, 43, 44, 45] from rfl]
        simp only [putL, slotOf, List.getElem?_toArray, List.getElem?_cons_succ, List.getElem?_cons_zero, Option.bind_some, Act.put, List.setIfInBounds_toArray, List.set_cons_succ, List.set_cons_zero, e45]
        refine tail_end ?_
        go_wp2_with fail
        go_ret
        exact ⟨rfl, HB14.out⟩
end Go.Proofs.Ytokfalcmkmelpaa.Pure
