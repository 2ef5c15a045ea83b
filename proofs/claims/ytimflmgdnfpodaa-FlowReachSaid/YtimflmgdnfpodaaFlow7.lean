/- flow: the keys of a map, sorted: slices.Sorted(maps.Keys(m)). -/
import Derived.Test.YtimflmgdnfpodaaFlow6
namespace Go.Proofs.YtimflmgdnfpodaaFlow
open Go.RowKit Go.Proofs.YtimflmgdnfpodaaW.PrintWords Go.Proofs.YtimflmgdnfpodaaW.PrintLast Go.Proofs.YtimflmgdnfpodaaRF Go.Proofs.YtimflmgdnfpodaaRG Go.Proofs.YtimflmgdnfpodaaMp
set_option linter.unusedSimpArgs false
set_option linter.unusedVariables false
attribute [local go_sem] Oper.semAt_some
/-- A map that has each of ws, itself below it, in the order in which they came. -/
def entsOf (ws : List Int) : ents := ws.zipIdx.map fun x => (x.1, x.1, x.2)
theorem findIdx_some (k : Int) : ∀ (L : ents) (i : Nat), (findIdx ieq k L i).isSome = decide (k ∈ L.map (·.1))
  | [], i => rfl
  | e :: r, i => by
    unfold findIdx
    by_cases h : ieq k e.1 = true
    · rw [if_pos h]
      have : k = e.1 := by simpa [ieq] using h
      simp [this]
    · rw [if_neg h, findIdx_some k r (i + 1)]
      have : k ≠ e.1 := by simpa [ieq] using h
      simp [this]
theorem entsOf_keys (ws : List Int) : (entsOf ws).map (·.1) = ws := by
  unfold entsOf
  rw [List.map_map]
  exact (List.map_congr_left (fun x _ => rfl)).trans (List.zipIdx_map_fst 0 ws)
theorem entsOf_born (ws : List Int) : (entsOf ws).map (·.2.2) = List.range ws.length := by
  unfold entsOf
  rw [List.map_map]
  have : (List.map ((fun x : Int × Int × Nat => x.2.2) ∘ fun x : Int × Nat => (x.1, x.1, x.2)) ws.zipIdx) = ws.zipIdx.map Prod.snd := List.map_congr_left (fun x _ => rfl)
  rw [this, List.zipIdx_map_snd, List.range_eq_range']
theorem entsOf_find (k : Int) (ws : List Int) : (findIdx ieq k (entsOf ws) 0).isSome = decide (k ∈ ws) := by
  rw [findIdx_some, entsOf_keys]
theorem entsOf_put (k : Int) (ws : List Int) (h : k ∉ ws) : upd ieq k k ws.length (entsOf ws) = (entsOf (ws ++ [k]), (ws ++ [k]).length) := by
  have hn : findIdx ieq k (entsOf ws) 0 = none := by
    have := entsOf_find k ws
    rw [decide_eq_false h] at this
    simpa using this
  unfold upd
  rw [hn]
  simp [entsOf, List.zipIdx_append]
theorem entsOf_lt (ws : List Int) : ∀ e ∈ entsOf ws, e.2.2 < ws.length := fun e he => by
  have : e.2.2 ∈ (entsOf ws).map (·.2.2) := List.mem_map_of_mem he
  rw [entsOf_born] at this
  exact List.mem_range.1 this
theorem entsOf_nd (ws : List Int) : ((entsOf ws).map (·.2.2)).Nodup := by rw [entsOf_born]; exact List.nodup_range
theorem entsOf_len (ws : List Int) : (entsOf ws).length = ws.length := by
  have := congrArg List.length (entsOf_keys ws)
  simpa using this
def sortI (l : List Int) : List Int := l.mergeSort fun x y => decide (x ≤ y)
theorem sortI_perm {a b : List Int} (h : a.Perm b) : sortI a = sortI b := by
  have ht : ∀ a b c : Int, decide (a ≤ b) = true → decide (b ≤ c) = true → decide (a ≤ c) = true := fun a b c h1 h2 => decide_eq_true (Int.le_trans (of_decide_eq_true h1) (of_decide_eq_true h2))
  have hc : ∀ a b : Int, (decide (a ≤ b) || decide (b ≤ a)) = true := fun a b => by simp; omega
  refine List.Perm.eq_of_pairwise (le := fun x y : Int => decide (x ≤ y) = true) (fun a b _ _ h1 h2 => ?_) (List.pairwise_mergeSort ht hc a) (List.pairwise_mergeSort ht hc b) ((List.mergeSort_perm a _).trans (h.trans (List.mergeSort_perm b _).symm))
  have := of_decide_eq_true h1
  have := of_decide_eq_true h2
  omega
set_option maxHeartbeats 1000000 in
theorem SortedKeys_calls (B g : Nat) (ws : List Int) (w : World) (hne : ws ≠ []) (hlen : ws.length < 4398046511104) (hBg : B < g) (hg : w.heap[g]? = some (.cells #[.map (some B)] 58 (0, 0))) (hB : w.heap[B]? = some (MapObj (Value.int .i64) vmark (entsOf ws) ws.length)) :
    Calls Try.prog 29 #[.func (.func 37) #[] #[.pointer (some ⟨g, 0, none⟩)]] w fun e w' => ∃ v, e = .returned v ∧ (Kd.int .i64).R 3 w' g (fun _ => True) v (sortI ws) ∧ Below g w w' := by
  have hgs := lt_of_at hg
  have HA := Aside0.mk (Collect_calls 37 #[.pointer (some ⟨g, 0, none⟩)] (enters_ Try.func37 (by kernel_rfl) rfl)
    (fun s => s.length ≤ (entsOf ws).length) (fun s => s.Perm ((entsOf ws).map (·.1))) (fun s hs => by rw [entsOf_len] at hs; omega) (fun k => k = g) (fun k => k = B) g w (Nat.le_of_lt hgs) (fun k hk => ⟨Nat.le_of_eq hk.symm, hk ▸ hgs⟩) (fun k hk => hk ▸ hBg)
    (fun W hW => keys1_iter 4 (by omega) B g (entsOf ws) ws.length W (by omega) (entsOf_lt ws) (entsOf_nd ws) ((hW.block _ hgs).trans hg) ((hW.block _ (by omega)).trans hB)))
  have HG := Aside0.mk (Nat.le_of_lt hgs)
  clear hg hB hBg hgs
  go_enter Try.func29, Try.ntmps29
  go_wp2_with fail
  refine HA.out.mono ?_
  rintro e w1 ⟨v, L, hS, rfl, hR, hb⟩
  rw [entsOf_keys] at hS
  have HS := Aside0.mk (Sort_calls w w1 g HG.out v L (by rw [hS.length_eq]; exact hlen) (fun e => hne (by rw [e] at hS; exact List.nil_perm.1 hS)) hR hb)
  have HE := Aside0.mk (show L.mergeSort (fun x y => decide (x ≤ y)) = sortI ws from sortI_perm hS)
  clear hR hb HA hS
  go_wp2_with fail
  refine HS.out.mono ?_
  rintro e w2 ⟨rfl, hR, hb⟩
  rw [HE.out] at hR
  have HR := Aside0.mk hR
  have HB := Aside0.mk hb
  clear hR hb HS
  go_wp2_with fail
  go_ret
  exact ⟨v, rfl, HR.out, HB.out⟩
end Go.Proofs.YtimflmgdnfpodaaFlow
