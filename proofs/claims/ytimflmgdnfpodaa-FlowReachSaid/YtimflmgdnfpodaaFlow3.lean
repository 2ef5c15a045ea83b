/- flow: slices.Collect of an iterator of ints. -/
import Derived.Test.YtimflmgdnfpodaaFlow2
import Derived.Test.YtimflmgdnfpodaaRF2
namespace Go.Proofs.YtimflmgdnfpodaaFlow
open Go.RowKit Go.Proofs.YtimflmgdnfpodaaW.PrintWords Go.Proofs.YtimflmgdnfpodaaW.PrintLast Go.Proofs.YtimflmgdnfpodaaRF Go.Proofs.YtimflmgdnfpodaaRG
set_option linter.unusedSimpArgs false
set_option linter.unusedVariables false
attribute [local go_sem] Oper.semAt_some
theorem infoI : (Try.prog.info? 3).map (fun i => (i.zero, i.size, i.bytes)) = some (some (.int .i64 0), 1, 8) := by kernel_rfl

set_option maxHeartbeats 2000000 in
theorem AppendSeq_calls (gf : Nat) (lb : Array Value) (hF : ∀ args w, (callFunc gf args).run Try.prog w = .ok (.enter gf args) w) (Pre S : List Int → Prop) (hPre : ∀ s, Pre s → s.length < 4398046511104) (O₀ Rd : Nat → Prop) (n₀ : Nat) (w : World) (hn₀ : n₀ ≤ w.heap.size) (hO₀ : ∀ k, O₀ k → n₀ ≤ k ∧ k < w.heap.size) (hRd : ∀ k, Rd k → k < n₀)
    (hit : ∀ W, Below w.heap.size w W → Iter Fence.wide 4 Try.prog gf lb (fun x : Int => #[.int .i64 x]) Pre S O₀ Rd W) :
    Calls Try.prog 34 #[.slice none 0 0, .func (.func gf) #[] lb] w fun e w' => ∃ v L, S L ∧ e = .returned v ∧ (Kd.int .i64).R 3 w' n₀ (fun _ => True) v L ∧ Below n₀ w w' := by
  refine (callsIn_wide (n := 5)).1 ?_
  refine callsIn_of_wp_marks Try.func34 rfl trivial ?_ rfl
  simp only [Try.ntmps34, List.size_toArray, List.length_cons, List.length_nil, Nat.reduceAdd, Nat.reduceSub, Array.replicate_succ, Array.replicate_zero, List.push_toArray, List.append_toArray, List.nil_append, List.cons_append]
  gi_wp2
  obtain ⟨W1, hW1⟩ : ∃ W1, W1 = w.alloc (Obj.cells #[Value.slice none 0 0] 24) := ⟨_, rfl⟩
  have b0 : W1.heap[w.heap.size]? = some (.cells #[.slice none 0 0] 24 (0, 0)) := by rw [hW1]; exact at_new w _ rfl
  have hsz : W1.heap.size = w.heap.size + 1 := by rw [hW1]; simp
  have hbl : Below w.heap.size w W1 := by rw [hW1]; exact (Below.refl _ _).alloc (Nat.le_refl _) _
  rw [← hW1]
  refine rf_loop (n := 5) rfl (by omega) gf lb rfl trivial hF
    (fun x : Int => #[.int .i64 x]) (fun _ => rfl) O₀ Rd (fun k hk => by have := (hO₀ k hk).2; omega) (fun k hk => by have := hRd k hk; omega) (hit W1 hbl)
    (OutI (Value.int .i64) (fun _ => rfl) 24 3 n₀ w w.heap.size) (fun _ _ _ _ => False) (OutI.stable _ _ _ _ _ _ hn₀ _) (fun _ _ _ _ _ _ h _ _ _ => h.elim) ?_
    (fun x => { tmps := #[.slice none 0 0, .func (.func gf) #[] lb, .pointer (some ⟨w.heap.size, 0, none⟩), undef, .slice none 0 0, .int .i64 x, .func (.func gf) #[] lb, .int .i64 x, undef, undef, undef, undef, undef], defers := [] }) ?assign ?body ?done (fun _ _ _ _ _ _ _ _ h _ => h.elim)
  · intro O hO W hW
    have hno : ¬ O w.heap.size := fun e => by rcases hO _ e with h | h; have := (hO₀ _ h).2; omega; omega
    exact ⟨⟨_, ⟨hW.at b0 (fun h => h), hno⟩, Kd.R_nil _ _ _ _ _⟩, (hbl.mono hn₀).trans (hW.below (Nat.le_trans hn₀ hbl.size) (fun _ h => h.elim)), fun k hk => by rcases hO k hk with h | h; exact (hO₀ k h).1; omega⟩
  case assign =>
    intro l x W K hK
    gi_wp2
    exact hK
  case body =>
    intro l pre x O W hI hpre hOl hOlp hrec hOO hsz2
    obtain ⟨⟨v, hm, hr⟩, hb, hlo⟩ := hI
    obtain ⟨A, c, hv⟩ := Kd.R_slice hr
    subst hv
    have hc := cell_at hm.1 0
    have hf := free_at hm.1 0
    simp only [List.getElem?_toArray, List.getElem?_cons_zero] at hc
    have HM := Aside0.mk hm
    have HR := Aside0.mk hr
    have HL := Aside0.mk (show pre.length < 4398046511104 by have := hPre _ hpre; simp at this; omega)
    clear hm hr
    gi_wp2_with (gi_at_builtin; refine rf_append1 (Value.int .i64) (h1c := fun _ => rfl) _ rfl _ _ 24 3 (.int .i64 0) 8 rfl Try.underlying24 infoI rfl (by decide) n₀ (fun k => ¬ O k) (.slice A pre.length c) pre x W.heap.size 1 rfl rfl ?hg (Kd.R_alloc HR.out _) ?hb ?hl ?_)
    case hg => exact (cell_at (at_new W _ rfl) 0).trans rfl
    case hb => have := hb.size; simp; omega
    case hl => have := HL.out; omega
    intro v1 w1 hR1 hg1
    obtain ⟨W4, hW4⟩ : ∃ W4, W4 = W.alloc (.cells #[.int .i64 x] 3) := ⟨_, rfl⟩
    have hs4 : W4.heap.size = W.heap.size + 1 := by rw [hW4]; simp
    rw [← hW4] at hg1
    have hmv4 : Mv (fun _ => False) W W4 := by rw [hW4]; exact (Mv.refl _ _).alloc _
    have key := OutI.put (T := 24) (by decide) hn₀ hn₀ hOl HM.out HR.out hb hlo hmv4 (Kd.R_mono hR1 (fun k h => h.imp id (fun h => by omega))) hg1
    have hm1 := (hg1.block w.heap.size (lt_of_at (hmv4.at HM.out.1 (fun h => h))) (Kd.R_ne HR.out HM.out.1 (by decide))).trans (hmv4.at HM.out.1 (fun h => h))
    have hc := cell_at hm1 0
    have hf := free_at hm1 0
    simp only [List.getElem?_toArray, List.getElem?_cons_zero] at hc
    obtain ⟨A1, c1, hv1⟩ := Kd.R_slice hR1
    rw [List.length_append, List.length_singleton] at hv1
    subst hv1
    have KEY := Aside0.mk key
    clear key hm1 hR1 hg1 hmv4 hs4 hW4 hb hlo
    gi_wp2
    exact ⟨KEY.out.1.mono (fun k _ h => fun e => h (e.imp id (fun h => hRd k h))), KEY.out.2⟩
  case done =>
    intro D xs O W hD hOD hOl hS hI hK
    have HS := Aside0.mk hS
    clear hS
    obtain ⟨⟨v, hm, hr⟩, hb, hlo⟩ := hI
    obtain ⟨A, c, hv⟩ := Kd.R_slice hr
    subst hv
    have hc := cell_at hm.1 0
    simp only [List.getElem?_toArray, List.getElem?_cons_zero] at hc
    have HR := Aside0.mk hr
    have HB := Aside0.mk hb
    have HLO := Aside0.mk hlo
    clear hr hb hlo hm
    gi_wp2
    refine ⟨by simp, .inl ⟨_, _, rfl, run_takeDeferred hK, ?_⟩⟩
    have hfin : (Kd.int .i64).R 3 (W.putObj D (.deferred none)) n₀ (fun k => ¬ O k) (.slice A xs.length c) xs := Kd.R_step (w := W) HR.out (fun k hk hl => World.putObj_heap_other (fun e => hk (by rw [e]; exact hOD)))
    refine ⟨.slice A xs.length c, (results_tmp (t := 4) rfl _ _ _).trans rfl, .slice A xs.length c, xs, HS.out, rfl, Kd.R_mono hfin (fun _ _ => trivial), ?_⟩
    exact HB.out.trans (((Mv.refl (fun k => n₀ ≤ k) W).putObj (r := D) (.inl (HLO.out D hOD)) (.deferred none)).below (Nat.le_trans hn₀ HB.out.size) (fun _ h => h))
theorem Collect_calls (gf : Nat) (lb : Array Value) (hF : ∀ args w, (callFunc gf args).run Try.prog w = .ok (.enter gf args) w) (Pre S : List Int → Prop) (hPre : ∀ s, Pre s → s.length < 4398046511104) (O₀ Rd : Nat → Prop) (n₀ : Nat) (w : World) (hn₀ : n₀ ≤ w.heap.size) (hO₀ : ∀ k, O₀ k → n₀ ≤ k ∧ k < w.heap.size) (hRd : ∀ k, Rd k → k < n₀)
    (hit : ∀ W, Below w.heap.size w W → Iter Fence.wide 4 Try.prog gf lb (fun x : Int => #[.int .i64 x]) Pre S O₀ Rd W) :
    Calls Try.prog 26 #[.func (.func gf) #[] lb] w fun e w' => ∃ v L, S L ∧ e = .returned v ∧ (Kd.int .i64).R 3 w' n₀ (fun _ => True) v L ∧ Below n₀ w w' := by
  have HA := Aside0.mk (AppendSeq_calls gf lb hF Pre S hPre O₀ Rd n₀ w hn₀ hO₀ hRd hit)
  clear hit
  go_enter Try.func26, Try.ntmps26
  go_wp2_with fail
  refine HA.out.mono ?_
  rintro e w1 ⟨v, L, hS, rfl, hR, hb⟩
  have HS := Aside0.mk hS
  clear hS
  have HR := Aside0.mk hR
  have HB := Aside0.mk hb
  clear hR hb HA
  go_wp2_with fail
  go_ret
  exact ⟨v, L, HS.out, rfl, HR.out, HB.out⟩
/-- Where a place goes, collected. -/
theorem CollectGoes_calls (l : List Int) (hl : l.length < 4398046511104) (w0 w : World) (g : Nat) (A : Option Addr) (c : Nat) (hg0 : w0.heap.size ≤ g) (hg : w.heap[g]? = some (.cells #[.slice A l.length c] 24 (0, 0)))
    (hR : (Kd.int .i64).R 3 w w0.heap.size (fun _ => True) (.slice A l.length c) l) (hb : Below w0.heap.size w0 w) :
    Calls Try.prog 26 #[.func (.func 38) #[] #[.pointer (some ⟨g, 0, none⟩)]] w fun e w' => ∃ v, e = .returned v ∧ (Kd.int .i64).R 3 w' w0.heap.size (fun _ => True) v (uniq l) ∧ Below w0.heap.size w0 w' := by
  have hcc : l.length ≤ c := by
    obtain ⟨A', c', e, h, _⟩ := Kd.R_reads hR
    cases e; exact h
  have hul : ∀ k, (uniqU l k).length ≤ k := by
    intro k
    induction k with
    | zero => simp [uniqU]
    | succ k ih =>
      have h : uniqU l (k + 1) = if rdOf 0 l (k : Int) ∈ l.take k then uniqU l k else uniqU l k ++ [rdOf 0 l (k : Int)] := rfl
      rw [h]
      split
      · omega
      · simp; omega
  refine (Collect_calls 38 _ (enters_ Try.func38 (by kernel_rfl) rfl) (fun s => s <+: uniq l) (fun s => s = uniq l) (fun s hs => by have := hul l.length; have := hs.length_le; unfold uniq at this; omega) (fun k => k = g ∨ (Value.slice A l.length c).ownBlock = some k) (fun _ => False) w0.heap.size w hb.size ?_ (fun _ h => h.elim) ?_).mono ?_
  · rintro k (rfl | hk)
    · exact ⟨hg0, lt_of_at hg⟩
    · have := (Kd.R_bound hR).1 k hk
      exact ⟨this.2.1, this.2.2.1⟩
  · intro W hW
    exact each1_iter 4 (by omega) A c l g w0.heap.size W hl hcc ((hW.block g (lt_of_at hg)).trans hg) (Kd.R_below hR hW)
  · rintro e w' ⟨v, L, rfl, rfl, hr, hb'⟩
    exact ⟨v, rfl, hr, hb.trans hb'⟩
end Go.Proofs.YtimflmgdnfpodaaFlow
