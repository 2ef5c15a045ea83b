/- chain.walk and the function that it tells. -/
import Derived.Test.YtokfalcmkmelpaaRG
import Derived.Test.YtokfalcmkmelpaaProg
namespace Go.Proofs.YtokfalcmkmelpaaHChain
open Go.RowKit Go.Proofs.YtokfalcmkmelpaaW.PrintWords Go.Proofs.YtokfalcmkmelpaaRF Go.Proofs.YtokfalcmkmelpaaRG
attribute [local go_sem] Oper.semAt_some

def idx (N : Nat) (back : Bool) (i : Nat) : Int := if back then (N : Int) - 1 - i else i
def idxs (N : Nat) (back : Bool) : List Int := (List.range N).map (idx N back)
theorem idxs_take (N : Nat) (back : Bool) (k : Nat) (h : k < N) : (idxs N back).take (k + 1) = (idxs N back).take k ++ [idx N back k] := by
  unfold idxs
  rw [← List.map_take, ← List.map_take, List.take_range, List.take_range, Nat.min_eq_left (by omega), Nat.min_eq_left (by omega), List.range_succ]
  simp
theorem idxs_all (N : Nat) (back : Bool) : (idxs N back).take N = idxs N back := by
  rw [List.take_of_length_le]; simp [idxs]

theorem walk_calls (N : Int) (back : Bool) (w : World) :
    Calls Try.prog 42 #[.int .i64 N, .bool back] w fun e w' => e = .returned (.func (.func 48) #[] #[.pointer (some ⟨w.heap.size, 0, none⟩), .pointer (some ⟨w.heap.size + 1, 0, none⟩)]) ∧
      w' = (w.alloc (.cells #[.int .i64 N] 3)).alloc (.cells #[.bool back] 4) := by
  go_enter Try.func42, Try.ntmps42
  go_wp2
  go_ret
  exact ⟨rfl, rfl⟩

set_option maxHeartbeats 1000000 in
theorem walk1_iter (n : Nat) (hn : 2 ≤ n) (N : Nat) (hN : N ≤ 4611686018427387904) (back : Bool) (Bn Bb : Nat) (w : World)
    (hBn : w.heap[Bn]? = some (.cells #[.int .i64 N] 3 (0, 0))) (hBb : w.heap[Bb]? = some (.cells #[.bool back] 4 (0, 0))) :
    Iter Fence.wide n Try.prog 48 #[.pointer (some ⟨Bn, 0, none⟩), .pointer (some ⟨Bb, 0, none⟩)] (fun i : Int => #[.int .i64 i]) (fun l => l <+: idxs N back) (fun l => l = idxs N back) (fun k => k = Bn ∨ k = Bb) (fun _ => False) w := by
  intro l J Jx O W hJ hJx hY hmv hO hOl h0
  have hn1 : 1 ≤ n - 1 := by omega
  have hB1 := hmv.at hBn (fun h => h)
  have hB2 := hmv.at hBb (fun h => h)
  refine callsIn_of_wp Try.func48 rfl trivial ?_ rfl
  simp only [Try.ntmps48, List.size_toArray, List.length_cons, List.length_nil, Nat.reduceAdd, Nat.reduceSub, Array.replicate_succ, Array.replicate_zero, List.push_toArray, List.append_toArray, List.nil_append, List.cons_append]
  have hc1 := cell_at hB1 0
  have hc2 := cell_at hB2 0
  simp only [List.getElem?_toArray, List.getElem?_cons_zero] at hc1 hc2
  gi_wp2
  gi_loopw [6, 4] (fun v6 v4 wr => ∃ k : Nat, k ≤ N ∧ v6 = .int .i64 k ∧ Aside0 (J ((idxs N back).take k) O wr ∧ (∀ k, O k → k < wr.heap.size) ∧ wr.heap[Bn]? = some (.cells #[.int .i64 N] 3 (0, 0)) ∧ wr.heap[Bb]? = some (.cells #[.bool back] 4 (0, 0))))
    (fun v6 _ _ => N - (intOf v6).toNat)
  case atStart => exact ⟨0, Nat.zero_le _, rfl, ⟨by simpa using h0, hOl, hB1, hB2⟩⟩
  case round =>
    clear hc1 hc2
    obtain ⟨k, hk, rfl, ⟨hj, hol, hb1, hb2⟩⟩ := hrel
    have hc1 := cell_at hb1 0
    have hc2 := cell_at hb2 0
    simp only [List.getElem?_toArray, List.getElem?_cons_zero] at hc1 hc2
    by_cases hlt : k < N
    · obtain ⟨fn, tmps, assign, body, hy, hR⟩ := hY _ (idx N back k) O wr hj ⟨(idxs N back).drop (k + 1), by rw [← idxs_take N back k hlt, List.take_append_drop]⟩ hol
      have HR := Aside0.mk hR
      have HJ := Aside0.mk hj
      have HOL := Aside0.mk hol
      have HB1 := Aside0.mk hb1
      have HB2 := Aside0.mk hb2
      clear hR hj hol hb1 hb2 h0 hOl hB1 hB2 hBn hBb hY
      cases back
      all_goals
        simp only [idx, Bool.false_eq_true, if_false, if_true] at hy
        gi_wp2
        refine ⟨fun _ => by omega, HR.out.mono ?_⟩
        rintro e W3 (⟨rfl, hJ3, hm3⟩ | ⟨rfl, hJx3, hm3⟩)
        · have hb1' := hm3.at HB1.out (fun h => h.1 (hO _ (.inl rfl)))
          have hb2' := hm3.at HB2.out (fun h => h.1 (hO _ (.inr rfl)))
          have hJ3' := Aside0.mk hJ3
          have hm3' := Aside0.mk hm3
          have hb1' := Aside0.mk hb1'
          have hb2' := Aside0.mk hb2'
          clear hJ3 hm3 hy hc1 hc2
          gi_wp2
          go_roundw
          case rel => exact ⟨k + 1, by omega, by go_num, ⟨by rw [idxs_take N _ k hlt]; exact hJ3'.out, fun j hj => Nat.lt_of_lt_of_le (HOL.out j hj) hm3'.out.size, hb1'.out, hb2'.out⟩⟩
          case measure => simp [intOf]; omega
        · have hJx3' := Aside0.mk hJx3
          have hm3' := Aside0.mk hm3
          clear hJx3 hm3 hy hc1 hc2
          gi_wp2
          refine bodyPost_ret (results_none rfl _ _ _) rfl ?_
          exact ⟨⟨_, rfl⟩, .inr ⟨_, O, hJx3'.out, fun j hj => Nat.lt_of_lt_of_le (HOL.out j hj) hm3'.out.size⟩⟩
    · have HJ := Aside0.mk hj
      have HOL := Aside0.mk hol
      have hkN : k = N := by omega
      have HK := Aside0.mk hkN
      clear hj hol hb1 hb2 h0 hOl hB1 hB2 hBn hBb hY hkN
      gi_wp2
      go_end0
      exact ⟨⟨_, rfl⟩, .inl ⟨_, O, rfl, by have := HJ.out; rw [HK.out, idxs_all] at this; exact this, HOL.out⟩⟩
end Go.Proofs.YtokfalcmkmelpaaHChain
