/- flow: the keys of a map, sorted. -/
import Derived.Test.YtimflmgdnfpodaaFlow5
import Derived.Test.YtimflmgdnfpodaaSort
import Derived.Sort.OwnSortedInts
namespace Go.Proofs.YtimflmgdnfpodaaFlow
open Go.RowKit Go.Proofs.YtimflmgdnfpodaaW.PrintWords Go.Proofs.YtimflmgdnfpodaaW.PrintLast Go.Proofs.YtimflmgdnfpodaaRF Go.Proofs.YtimflmgdnfpodaaRG Go.Proofs.YtimflmgdnfpodaaMp
set_option linter.unusedSimpArgs false
set_option linter.unusedVariables false
attribute [local go_sem] Oper.semAt_some
theorem Keys_calls (B : Nat) (w : World) :
    Calls Try.prog 30 #[.map (some B)] w fun e w' => e = .returned (.func (.func 37) #[] #[.pointer (some ⟨w.heap.size, 0, none⟩)]) ∧ w' = w.alloc (.cells #[.map (some B)] 58) := by
  go_enter Try.func30, Try.ntmps30
  go_wp2
  go_ret
  exact ⟨rfl, rfl⟩
abbrev ents := List (Int × Int × Nat)
/-- Between two rounds over a map: es have come. -/
structure KR (L : ents) (c B g R : Nat) (J : List Int → (Nat → Prop) → World → Prop) (es : ents) (O : Nat → Prop) (wr : World) : Prop where
  pm : (es ++ left (es.map (·.2.2)).toArray L).Perm L
  j : J (es.map (·.1)) O wr
  ol : ∀ k, O k → k < wr.heap.size
  og : O g
  oR : O R
  bg : wr.heap[g]? = some (.cells #[.map (some B)] 58 (0, 0))
  bB : wr.heap[B]? = some (MapObj (Value.int .i64) vmark L c)
  bR : wr.heap[R]? = some (.mapIter (some B) c (es.map (·.2.2)).toArray c)
theorem left_push_perm {seen : Array Nat} {L : ents} {e : Int × Int × Nat} (he : e ∈ left seen L) (hn : (L.map (·.2.2)).Nodup) : (e :: left (seen.push e.2.2) L).Perm (left seen L) := by
  have h1 : left (seen.push e.2.2) L = (left seen L).filter fun x => !(x.2.2 == e.2.2) := by
    unfold left
    rw [List.filter_filter]
    refine List.filter_congr fun x _ => ?_
    by_cases h : x.2.2 = e.2.2 <;> simp [h, Bool.and_comm]
  have hnl : ((left seen L).map (·.2.2)).Nodup := hn.sublist ((List.filter_sublist).map _)
  rw [h1]
  generalize left seen L = l at he hnl
  induction l with
  | nil => cases he
  | cons x r ih =>
    simp only [List.map_cons, List.nodup_cons] at hnl
    rcases List.mem_cons.1 he with rfl | he
    · have : (r.filter fun x => !(x.2.2 == e.2.2)) = r := List.filter_eq_self.2 fun y hy => by
        have : y.2.2 ≠ e.2.2 := fun h => hnl.1 (h ▸ List.mem_map_of_mem hy)
        simp [this]
      simp [this]
    · have hx : x.2.2 ≠ e.2.2 := fun h => hnl.1 (h ▸ List.mem_map_of_mem he)
      rw [List.filter_cons_of_pos (by simp [hx])]
      exact (List.Perm.swap _ _ _).trans ((ih he hnl.2).cons x)
set_option maxHeartbeats 2000000 in
set_option maxRecDepth 100000 in
theorem keys1_iter (n : Nat) (hn : 2 ≤ n) (B g : Nat) (L : ents) (c : Nat) (w : World) (hgB : g ≠ B) (hc : ∀ e ∈ L, e.2.2 < c) (hnd : (L.map (·.2.2)).Nodup)
    (hg : w.heap[g]? = some (.cells #[.map (some B)] 58 (0, 0))) (hB : w.heap[B]? = some (MapObj (Value.int .i64) vmark L c)) :
    Iter Fence.wide n Try.prog 37 #[.pointer (some ⟨g, 0, none⟩)] (fun x : Int => #[.int .i64 x]) (fun s => s.length ≤ L.length) (fun s => s.Perm (L.map (·.1))) (fun k => k = g) (fun k => k = B) w := by
  intro lp J Jx O W hJ hJx hY hmv hO hOl h0
  have hn1 : 1 ≤ n - 1 := by omega
  have hg1 := hmv.at hg (fun h => h)
  have hB1 := hmv.at hB (fun h => h)
  refine callsIn_of_wp Try.func37 rfl trivial ?_ rfl
  simp only [Try.ntmps37, List.size_toArray, List.length_cons, List.length_nil, Nat.reduceAdd, Nat.reduceSub, Array.replicate_succ, Array.replicate_zero, List.push_toArray, List.append_toArray, List.nil_append, List.cons_append]
  have hc1 := cell_at hg1 0
  simp only [List.getElem?_toArray, List.getElem?_cons_zero] at hc1
  obtain ⟨R, hR⟩ : ∃ R, R = W.heap.size := ⟨_, rfl⟩
  obtain ⟨W1, hW1⟩ : ∃ W1, W1 = W.alloc (.mapIter (some B) c #[] c) := ⟨_, rfl⟩
  have hrr : (Instr.range 58 (.map (some B))).run Try.prog W = .ok (.pointer (some ⟨R, 0, none⟩)) W1 := by
    rw [range_run (P := Try.prog) Try.underlying58 hB1, hR, hW1]
  have KR0 : KR L c B g R J [] (fun k => O k ∨ k = R) W1 := by
    have hlw : left (α := Int) (β := Int) #[] L = L := by unfold left; exact List.filter_eq_self.2 (fun _ _ => by simp)
    have hmvA : Mv O W W1 := by rw [hW1]; exact (Mv.refl _ _).alloc _
    refine ⟨by simp [hlw], hJ _ O _ W W1 h0 hmvA (fun k h => .inl h) (fun k h => h.imp id (fun h => by omega)), fun k h => ?_, .inl (hO _ rfl), .inr rfl, ?_, ?_, ?_⟩
    · have : W1.heap.size = W.heap.size + 1 := by rw [hW1]; simp
      rcases h with h | h
      · have := hOl k h; omega
      · omega
    · rw [hW1]; exact at_alloc hg1 _
    · rw [hW1]; exact at_alloc hB1 _
    · rw [hW1, hR]; exact at_new _ _ rfl
  have K0 := Aside0.mk KR0
  clear KR0 hg1 hB1 hOl h0 hR hW1
  gi_wp2
  gi_loopw [] (fun wr => ∃ (es : ents) (O : Nat → Prop), Aside0 (KR L c B g R J es O wr)) (fun wr => match wr.heap[R]? with | some (.mapIter _ _ seen _) => L.length - seen.size | _ => 0)
  case atStart => exact ⟨[], _, K0⟩
  case round =>
    clear K0 hrr hc1 hO
    obtain ⟨es, O, HK⟩ := hrel
    have hk := HK.out
    have hbr := hk.bR
    obtain ⟨seen, hseen⟩ : ∃ seen, seen = (es.map (·.2.2)).toArray := ⟨_, rfl⟩
    rw [← hseen] at hbr
    have hlen : es.length + (left seen L).length = L.length := by
      have := hk.pm.length_eq
      rw [← hseen] at this
      simpa using this
    have hnx := next_run (P := Try.prog) (kenc := Value.int .i64) (venc := vmark) 0 hk.bB hbr hc
    by_cases hl : left seen L = []
    · have hn := hnx.1 hl
      have hS : (es.map (·.1)).Perm (L.map (·.1)) := by
        have := hk.pm
        rw [← hseen, hl, List.append_nil] at this
        exact this.map _
      have HS := Aside0.mk hS
      clear hnx hk hbr hlen hl hS hseen hY hn1
      gi_wp2
      go_end0
      exact ⟨⟨_, rfl⟩, .inl ⟨_, HS.out, O, HK.out.j, HK.out.ol⟩⟩
    · obtain ⟨e, he, w1, hw1, hn⟩ := hnx.2 hl
      have heL : e ∈ L := (List.mem_filter.1 he).1
      obtain ⟨W2, hW2⟩ : ∃ W2, W2 = w1.putObj R (.mapIter (some B) c (seen.push e.2.2) c) := ⟨_, rfl⟩
      rw [← hW2] at hn
      have hmv2 : Mv O wr W2 := by
        rw [hW2]
        rcases hw1 with rfl | rfl
        · exact (Mv.refl _ _).putObj (.inl hk.oR) _
        · exact (Mv.refl _ _).drew.putObj (.inl hk.oR) _
      have hne : R ≠ B := fun e => by have := hk.bB; rw [← e, hbr] at this; cases this
      have hneg : g ≠ R := fun e => by have := hk.bg; rw [e, hbr] at this; cases this
      have hw1h : ∀ k : Nat, w1.heap[k]? = wr.heap[k]? := fun k => by rcases hw1 with rfl | rfl <;> rfl
      have hw1s : w1.heap.size = wr.heap.size := by rcases hw1 with rfl | rfl <;> rfl
      have bB2 : W2.heap[B]? = some (MapObj (Value.int .i64) vmark L c) := by rw [hW2]; exact (World.putObj_heap_other hne.symm).trans ((hw1h _).trans hk.bB)
      have bg2 : W2.heap[g]? = some (.cells #[.map (some B)] 58 (0, 0)) := by rw [hW2]; exact (World.putObj_heap_other hneg).trans ((hw1h _).trans hk.bg)
      have bR2 : W2.heap[R]? = some (.mapIter (some B) c (seen.push e.2.2) c) := by rw [hW2]; exact World.putObj_heap_same (by rw [hw1s]; exact lt_of_at hbr)
      have hen := entry_run (P := Try.prog) (kenc := Value.int .i64) (venc := vmark) bB2 bR2 heL hnd
      have ol2 : ∀ k, O k → k < W2.heap.size := fun k h => Nat.lt_of_lt_of_le (hk.ol k h) hmv2.size
      have hj2 := hJ _ O O wr W2 hk.j hmv2 (fun _ h => h) (fun _ h => .inl h)
      have hpre : (es.map (·.1) ++ [e.1]).length ≤ L.length := by
        have : 0 < (left seen L).length := List.length_pos_iff.2 hl
        simp; omega
      obtain ⟨fn, tmps, assign, body, hy, hRd⟩ := hY (es.map (·.1)) e.1 O W2 hj2 hpre ol2
      have hpm2 : ((es ++ [e]) ++ left ((es ++ [e]).map (·.2.2)).toArray L).Perm L := by
        have h1 : ((es ++ [e]).map (·.2.2)).toArray = seen.push e.2.2 := by rw [hseen]; simp
        rw [h1, List.append_assoc, List.singleton_append]
        refine List.Perm.trans ?_ hk.pm
        rw [← hseen]
        exact (left_push_perm he hnd).append_left es
      have HRD := Aside0.mk hRd
      have OL2 := Aside0.mk ol2
      have HP := Aside0.mk hpm2
      have H2 := Aside0.mk (And.intro bB2 (And.intro bg2 (And.intro bR2 (And.intro hseen (And.intro hne hneg)))))
      have HLEN := Aside0.mk (show (seen.push e.2.2).size = es.length + 1 ∧ seen.size = es.length ∧ es.length < L.length from ⟨by rw [hseen]; simp, by rw [hseen]; simp, by simp at hpre; omega⟩)
      have HBR := Aside0.mk hbr
      simp only [vmark] at hn hen
      clear hnx hk hbr hlen hl hseen hY he heL hW2 hw1 hmv2 hne hneg hw1h hw1s bB2 bg2 bR2 ol2 hj2 hpre hpm2 hRd
      gi_wp2
      refine ⟨fun _ => by omega, HRD.out.mono ?_⟩
      rintro x W3 (⟨rfl, hJ3, hm3⟩ | ⟨rfl, hJx3, hm3⟩)
      · obtain ⟨bB2, bg2, bR2, hseen, hne, hneg⟩ := H2.out
        have bB3 := hm3.at bB2 (fun h => h.2 rfl)
        have bg3 := hm3.at bg2 (fun h => h.1 HK.out.og)
        have bR3 := hm3.at bR2 (fun h => h.1 HK.out.oR)
        have h1 : ((es ++ [e]).map (·.2.2)).toArray = seen.push e.2.2 := by rw [hseen]; simp
        have NEW := Aside0.mk (show KR L c B g R J (es ++ [e]) O W3 from ⟨HP.out, by rw [List.map_append]; exact hJ3, fun k h => Nat.lt_of_lt_of_le (OL2.out k h) hm3.size, HK.out.og, HK.out.oR, bg3, bB3, by rw [h1]; exact bR3⟩)
        have BR3 := Aside0.mk bR3
        clear hJ3 hm3 hy bB2 bg2 bR2 bB3 bg3 bR3 h1 hseen hne hneg H2 HP hn hen
        gi_wp2
        go_roundw
        case rel => exact ⟨es ++ [e], O, NEW⟩
        case measure =>
          rw [BR3.out, HBR.out]
          have h1 := HLEN.out
          show L.length - (seen.push e.2.2).size < L.length - seen.size
          omega
      · have hJx3' := Aside0.mk hJx3
        have hm3' := Aside0.mk hm3
        clear hJx3 hm3 hy H2 HP hn hen
        gi_wp2
        refine bodyPost_ret (results_none rfl _ _ _) rfl ?_
        exact ⟨⟨_, rfl⟩, .inr ⟨_, O, hJx3'.out, fun j hj => Nat.lt_of_lt_of_le (OL2.out j hj) hm3'.out.size⟩⟩
/-- slices.Sort of a row of the call's own. -/
theorem Sort_calls (w0 w : World) (n₀ : Nat) (hn : n₀ ≤ w0.heap.size) (v : Value) (l : List Int) (hl : l.length < 4398046511104) (hne : l ≠ []) (hR : (Kd.int .i64).R 3 w n₀ (fun _ => True) v l) (hb : Below n₀ w0 w) :
    Calls Try.prog 36 #[v] w fun e w' => e = .returned (.tuple #[]) ∧ (Kd.int .i64).R 3 w' n₀ (fun _ => True) v (l.mergeSort fun x y => decide (x ≤ y)) ∧ Below n₀ w0 w' := by
  have hown := Kd.own_of_R hR
  rcases hown.2 with ⟨_, h0⟩ | ⟨g, cap, cur, hv, hbase, hcur, hn1, hcap, hsz, htake⟩
  · exact absurd (by simpa [encs] using h0) hne
  subst hv
  have hH : Go.Sort.Holds (Value.int .i64) w g 0 l.toArray := holds_of_blockI hcur (by simpa [encs] using htake)
  refine (Go.Proofs.Any.slices_Sort_int Go.Proofs.YtimflmgdnfpodaaSort.lays g 0 cap l w hH (lt_of_at hcur) (by omega)).mono ?_
  rintro e w' ⟨rfl, n, os, rfl⟩
  have hperm := List.mergeSort_perm l (fun x y => decide (x ≤ y))
  have hlen : (l.mergeSort fun x y => decide (x ≤ y)).length = l.length := hperm.length_eq
  have hgrow := grownBy_sortedI (w := w) (g := g) (n := n) (os := os) (l.mergeSort fun x y => decide (x ≤ y)).toArray
  refine ⟨rfl, ?_, hb.grown hgrow (Nat.le_trans hn hb.size) (fun k e => by cases e; exact hbase)⟩
  have := ownsRow_sortedI (n := n) (os := os) (ss := l) (ts := l.mergeSort fun x y => decide (x ≤ y)) hlen hbase hcur (by simpa using hn1) (by simpa using hcap) (by simpa using hsz)
  refine Kd.R_of_own ?_ (fun _ _ => trivial)
  rw [hlen]
  simpa [encs] using this
end Go.Proofs.YtimflmgdnfpodaaFlow
