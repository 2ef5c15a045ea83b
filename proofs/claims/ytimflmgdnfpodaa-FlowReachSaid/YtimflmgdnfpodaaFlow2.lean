/- flow: each's function, as an iterator. -/
import Derived.Test.YtimflmgdnfpodaaFlow1
namespace Go.Proofs.YtimflmgdnfpodaaFlow
open Go.RowKit Go.Proofs.YtimflmgdnfpodaaW.PrintWords Go.Proofs.YtimflmgdnfpodaaW.PrintLast Go.Proofs.YtimflmgdnfpodaaRF Go.Proofs.YtimflmgdnfpodaaRG
set_option linter.unusedSimpArgs false
set_option linter.unusedVariables false
attribute [local go_sem] Oper.semAt_some

/-- The distinct ones of the first k. -/
def uniqU (l : List Int) : Nat → List Int
  | 0 => []
  | k + 1 => if rdOf 0 l (k : Int) ∈ l.take k then uniqU l k else uniqU l k ++ [rdOf 0 l (k : Int)]
def uniq (l : List Int) : List Int := uniqU l l.length
theorem uniqU_pre (l : List Int) : ∀ (k m : Nat), uniqU l k <+: uniqU l (k + m)
  | k, 0 => List.prefix_refl _
  | k, m + 1 => by
    refine (uniqU_pre l k m).trans ?_
    have h : uniqU l (k + (m + 1)) = if rdOf 0 l ((k + m : Nat) : Int) ∈ l.take (k + m) then uniqU l (k + m) else uniqU l (k + m) ++ [rdOf 0 l ((k + m : Nat) : Int)] := rfl
    rw [h]
    by_cases hc : rdOf 0 l ((k + m : Nat) : Int) ∈ l.take (k + m)
    · rw [if_pos hc]; exact List.prefix_refl _
    · rw [if_neg hc]; exact List.prefix_append _ _
theorem reads_take {w : World} {A : Option Addr} {l : List Int} (h : ReadsOf (Value.int .i64) 0 w A l.length l) (k : Nat) (hk : k ≤ l.length) : ReadsOf (Value.int .i64) 0 w A (l.take k).length (l.take k) := by
  have hlk : (l.take k).length = k := by simp; omega
  refine ⟨rfl, by have := h.2.1; omega, fun hn => ?_⟩
  obtain ⟨ad, e, hc⟩ := h.2.2 (by omega)
  refine ⟨ad, e, fun j hj => ?_⟩
  rw [hc j (by omega)]
  simp [List.getD_eq_getElem?_getD, List.getElem?_take, show j < k by omega]

set_option maxHeartbeats 2000000 in
set_option maxRecDepth 100000 in
theorem each1_iter (n : Nat) (hn : 2 ≤ n) (A : Option Addr) (c : Nat) (l : List Int) (g base : Nat) (w : World) (hlt : l.length < 4398046511104) (hc : l.length ≤ c)
    (hg : w.heap[g]? = some (.cells #[.slice A l.length c] 24 (0, 0))) (hR : (Kd.int .i64).R 3 w base (fun _ => True) (.slice A l.length c) l) :
    Iter Fence.wide n Try.prog 38 #[.pointer (some ⟨g, 0, none⟩)] (fun x : Int => #[.int .i64 x]) (fun s => s <+: uniq l) (fun s => s = uniq l) (fun k => k = g ∨ (Value.slice A l.length c).ownBlock = some k) (fun _ => False) w := by
  intro lp J Jx O W hJ hJx hY hmv hO hOl h0
  have hn1 : 1 ≤ n - 1 := by omega
  have hB1 := hmv.at hg (fun h => h)
  have hR1 : (Kd.int .i64).R 3 W base (fun k => (Value.slice A l.length c).ownBlock = some k) (.slice A l.length c) l := Kd.R_of_own (Kd.own_of_R (Kd.R_step hR (fun k _ hk => hmv.block k hk (fun h => h)))) (fun k hk => hk)
  refine callsIn_of_wp Try.func38 rfl trivial ?_ rfl
  simp only [Try.ntmps38, List.size_toArray, List.length_cons, List.length_nil, Nat.reduceAdd, Nat.reduceSub, Array.replicate_succ, Array.replicate_zero, List.push_toArray, List.append_toArray, List.nil_append, List.cons_append]
  have hc1 := cell_at hB1 0
  simp only [List.getElem?_toArray, List.getElem?_cons_zero] at hc1
  have HR1 := Aside0.mk hR1
  clear hR1 hR hg
  gi_wp2
  gi_loopw [7] (fun v7 wr => ∃ k : Nat, k ≤ l.length ∧ v7 = .int .i64 k ∧ Aside0 (J (uniqU l k) O wr ∧ (∀ k, O k → k < wr.heap.size) ∧ wr.heap[g]? = some (.cells #[.slice A l.length c] 24 (0, 0)) ∧ (Kd.int .i64).R 3 wr base (fun k => (Value.slice A l.length c).ownBlock = some k) (.slice A l.length c) l))
    (fun v7 _ => l.length - (intOf v7).toNat)
  case atStart => exact ⟨0, Nat.zero_le _, rfl, ⟨h0, hOl, hB1, HR1.out⟩⟩
  case round =>
    clear hc1 h0 hOl hB1
    obtain ⟨k, hk, rfl, ⟨hj, hol, hb1, hr1⟩⟩ := hrel
    have hc1 := cell_at hb1 0
    simp only [List.getElem?_toArray, List.getElem?_cons_zero] at hc1
    have HJ := Aside0.mk hj
    have HOL := Aside0.mk hol
    have HB1 := Aside0.mk hb1
    have HR1 := Aside0.mk hr1
    by_cases hlt2 : k < l.length
    · obtain ⟨A', c', e', _, hC⟩ := Kd.R_reads hr1
      cases e'
      have hrd := Kd.reads_of_C (d := (0 : Int)) hC
      obtain ⟨ad, hA, x0⟩ := hrd.at_ (k : Int) (by omega) (by omega)
      rw [Int.toNat_natCast] at x0
      have hK := ContainsI_calls A c (l.take k) (rdOf 0 l (k : Int)) wr (Kd.C_of_reads (reads_take hrd k hk)) (by simp; omega)
      rw [show (l.take k).length = k by simp; omega] at hK
      have HK := Aside0.mk ((callsIn_wide (n := n - 1)).2 hK)
      have HU := Aside0.mk (show uniqU l (k + 1) = if rdOf 0 l (k : Int) ∈ l.take k then uniqU l k else uniqU l k ++ [rdOf 0 l (k : Int)] from rfl)
      subst hA
      clear hK hC hrd hj hol hb1 hr1
      by_cases hin : rdOf 0 l (k : Int) ∈ l.take k
      · rw [decide_eq_true hin] at HK
        rw [if_pos hin] at HU
        clear hin hY
        gi_wp2
        refine ⟨trivial, fun _ => by omega, HK.out.mono ?_⟩
        rintro e w2 ⟨rfl, rfl⟩
        clear HK
        gi_wp2
        refine ⟨fun _ h => (by cases h), ?_⟩
        gi_wp2
        go_roundw
        case rel => exact ⟨k + 1, by omega, by go_num, ⟨by rw [HU.out]; exact HJ.out, HOL.out, HB1.out, HR1.out⟩⟩
        case measure => simp [intOf]; omega
      · rw [decide_eq_false hin] at HK
        rw [if_neg hin] at HU
        obtain ⟨fn, tmps, assign, body, hy, hR⟩ := hY (uniqU l k) (rdOf 0 l (k : Int)) O wr HJ.out (by
          rw [← HU.out]
          have := uniqU_pre l (k + 1) (l.length - (k + 1))
          rw [show k + 1 + (l.length - (k + 1)) = l.length by omega] at this
          exact this) HOL.out
        have HR := Aside0.mk hR
        clear hR hY hin
        gi_wp2
        refine ⟨trivial, fun _ => by omega, HK.out.mono ?_⟩
        rintro e w2 ⟨rfl, rfl⟩
        clear HK
        gi_wp2
        refine ⟨fun _ => by omega, HR.out.mono ?_⟩
        rintro e W3 (⟨rfl, hJ3, hm3⟩ | ⟨rfl, hJx3, hm3⟩)
        · have hb1' := hm3.at HB1.out (fun h => h.1 (hO _ (.inl rfl)))
          have hr1' := Kd.R_step (w1 := W3) HR1.out (fun j hj hl => hm3.block j hl (fun h => h.1 (hO _ (.inr hj))))
          have hJ3' := Aside0.mk hJ3
          have hm3' := Aside0.mk hm3
          have hb1' := Aside0.mk hb1'
          have hr1' := Aside0.mk hr1'
          clear hJ3 hm3 hy hc1 x0
          gi_wp2
          go_roundw
          case rel => exact ⟨k + 1, by omega, by go_num, ⟨by rw [HU.out]; exact hJ3'.out, fun j hj => Nat.lt_of_lt_of_le (HOL.out j hj) hm3'.out.size, hb1'.out, hr1'.out⟩⟩
          case measure => simp [intOf]; omega
        · have hJx3' := Aside0.mk hJx3
          have hm3' := Aside0.mk hm3
          clear hJx3 hm3 hy hc1 x0
          gi_wp2
          refine bodyPost_ret (results_none rfl _ _ _) rfl ?_
          exact ⟨⟨_, rfl⟩, .inr ⟨_, O, hJx3'.out, fun j hj => Nat.lt_of_lt_of_le (HOL.out j hj) hm3'.out.size⟩⟩
    · have hkN : k = l.length := by omega
      have HK := Aside0.mk hkN
      clear hj hol hb1 hr1 hY hkN
      gi_wp2
      go_end0
      exact ⟨⟨_, rfl⟩, .inl ⟨_, O, rfl, by have := HJ.out; rw [HK.out] at this; exact this, HOL.out⟩⟩
end Go.Proofs.YtimflmgdnfpodaaFlow
