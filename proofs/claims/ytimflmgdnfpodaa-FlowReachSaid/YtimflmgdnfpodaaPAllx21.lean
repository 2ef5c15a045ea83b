-- WRITTEN BY hand.py of this session, over the kit's print: a text of this seat
import Derived.Test.YtimflmgdnfpodaaPAllx0
import Derived.Test.YtimflmgdnfpodaaPAllx1
import Derived.Test.YtimflmgdnfpodaaPAllx3
namespace Go.Proofs.Ytimflmgdnfpodaa.PAll
open Go.RowKit Go.Proofs.YtimflmgdnfpodaaW.PrintWords Go.Proofs.YtimflmgdnfpodaaW.PrintLast Go.Proofs.YtimflmgdnfpodaaW.PrintMore
attribute [local go_sem] max2_int min2_int max_two min_two max_three min_three max_four min_four   -- for this text's walks alone
set_option linter.unusedVariables false
set_option linter.unusedSimpArgs false

attribute [local go_sem high] eqA29
/-! ### flow_Reach: function 11 -/
open Go.Proofs.YtimflmgdnfpodaaFlow in
/-- Where place p goes. -/
def flow_Reach.to (l0 : List (S40)) (p : Int) : List Int := uniq (goesL (rd_T40 l0 p).f0 (rd_T40 l0 p).f1 p)
def flow_Reach.put (ws : List Int) (x : Int) : List Int := if x ∈ ws then ws else ws ++ [x]
def flow_Reach.puts (ws ts : List Int) : List Int := ts.foldl flow_Reach.put ws
/-- The places that wait, behind all rounds from i on. -/
def flow_Reach.go (l0 : List (S40)) : Nat → Nat → List Int → List Int
  | 0, _, ws => ws
  | k + 1, i, ws => if i < ws.length then flow_Reach.go l0 k (i + 1) (flow_Reach.puts ws (flow_Reach.to l0 (ws.getD i 0))) else ws
open Go.Proofs.YtimflmgdnfpodaaFlow in
def flow_Reach.f (l0 : List (S40)) : Option (List Int × Int × Int) :=
  (flow_Check.f l0).bind fun bt => if (!(bt.1 == 0) || (!(bt.2 == 0))) = true then some ([], bt.1, bt.2) else some (sortI (flow_Reach.go l0 l0.length 0 [0]), bt.1, bt.2)
theorem flow_Reach.ok (l0 : List (S40)) (h : flow_Check.f l0 = some (0, 0)) : 0 < l0.length ∧ l0.length ≤ 20000 ∧ flow_Check.at l0 l0.length 0 = none := by
  unfold flow_Check.f flow_Check.v at h
  by_cases h1 : (l0.length : Int) > 20000
  · rw [if_pos h1] at h; simp at h
  rw [if_neg h1] at h
  by_cases h2 : (l0.length : Int) = 0
  · rw [if_pos h2] at h; simp at h
  rw [if_neg h2] at h
  refine ⟨by omega, by omega, ?_⟩
  cases ha : flow_Check.at l0 l0.length 0 with
  | none => rfl
  | some i => rw [ha] at h; simp at h
theorem flow_Reach.ok_at (l0 : List (S40)) : ∀ (k i : Nat), flow_Check.at l0 k i = none → ∀ j, i ≤ j → j < i + k → ∀ x ∈ flow_Reach.to l0 (j : Int), 0 ≤ x ∧ x < (l0.length : Int)
  | 0, i, _, j, h1, h2, x, hx => by omega
  | k + 1, i, h, j, h1, h2, x, hx => by
    unfold flow_Check.at at h
    split at h
    · cases h
    · rename_i ho
      by_cases hj : j = i
      · subst hj
        have ho2 : flow_Check.out l0.length (flow_Reach.to l0 (j : Int)) = false := Bool.eq_false_iff.2 ho
        have := List.any_eq_false.1 ho2 x hx
        simp at this
        omega
      · exact flow_Reach.ok_at l0 k (i + 1) h j (by omega) (by omega) x hx
theorem flow_Reach.nodup_len : ∀ (n : Nat) (l : List Int), l.Nodup → (∀ x ∈ l, 0 ≤ x ∧ x < (n : Int)) → l.length ≤ n
  | 0, l, _, h => by
    cases l with
    | nil => simp
    | cons x r => have := h x (by simp); omega
  | n + 1, l, hn, h => by
    by_cases hm : (n : Int) ∈ l
    · have h1 := flow_Reach.nodup_len n (l.erase (n : Int)) (hn.erase _) (fun x hx => by
        have h2 := (List.Nodup.mem_erase_iff hn).1 hx
        have := h x h2.2
        have := h2.1
        omega)
      rw [List.length_erase_of_mem hm] at h1
      omega
    · have := flow_Reach.nodup_len n l hn (fun x hx => by
        have := h x hx
        have : x ≠ (n : Int) := fun e => hm (e ▸ hx)
        omega)
      omega
theorem flow_Reach.puts_snoc (ws ts : List Int) (x : Int) : flow_Reach.puts ws (ts ++ [x]) = flow_Reach.put (flow_Reach.puts ws ts) x := by
  unfold flow_Reach.puts
  rw [List.foldl_append]; rfl
/-- What the places that wait are. -/
structure flow_Reach.Wt (n : Nat) (ws : List Int) : Prop where
  wf : ∀ x ∈ ws, 0 ≤ x ∧ x < (n : Int)
  nd : ws.Nodup
theorem flow_Reach.Wt.put {n : Nat} {ws : List Int} (h : flow_Reach.Wt n ws) (x : Int) (hx : 0 ≤ x ∧ x < (n : Int)) : flow_Reach.Wt n (flow_Reach.put ws x) := by
  unfold flow_Reach.put
  split
  · exact h
  · rename_i hm
    refine ⟨fun y hy => ?_, List.nodup_append.2 ⟨h.nd, by simp, fun a ha b hb e => ?_⟩⟩
    · rcases List.mem_append.1 hy with hy | hy
      · exact h.wf y hy
      · rw [List.mem_singleton.1 hy]; exact hx
    · rw [List.mem_singleton.1 hb] at e
      exact hm (e ▸ ha)
theorem flow_Reach.Wt.len {n : Nat} {ws : List Int} (h : flow_Reach.Wt n ws) : ws.length ≤ n := flow_Reach.nodup_len n ws h.nd h.wf
theorem flow_Reach.go_step (l0 : List (S40)) (i : Nat) (ws : List Int) (hi : i < l0.length) (hl : i < ws.length) : flow_Reach.go l0 (l0.length - i) i ws = flow_Reach.go l0 (l0.length - (i + 1)) (i + 1) (flow_Reach.puts ws (flow_Reach.to l0 (ws.getD i 0))) := by
  rw [show l0.length - i = (l0.length - (i + 1)) + 1 by omega]
  show (if _ then _ else _) = _
  rw [if_pos hl]
theorem flow_Reach.go_end (l0 : List (S40)) : ∀ (k i : Nat) (ws : List Int), ws.length ≤ i → flow_Reach.go l0 k i ws = ws
  | 0, i, ws, h => rfl
  | k + 1, i, ws, h => by
    show (if _ then _ else _) = _
    rw [if_neg (by omega)]
theorem flow_Reach.puts_pre (ws : List Int) : ∀ (ts : List Int), ws <+: flow_Reach.puts ws ts := by
  intro ts
  induction ts generalizing ws with
  | nil => exact List.prefix_refl _
  | cons x r ih =>
    show ws <+: flow_Reach.puts (flow_Reach.put ws x) r
    refine List.IsPrefix.trans ?_ (ih _)
    unfold flow_Reach.put
    split
    · exact List.prefix_refl _
    · exact List.prefix_append _ _
/-- The frame ahead of each round. -/
def flow_Reach.fr (A0 : Option Addr) (n c0 r b5 b6 i : Nat) (ds : List Nat) (u : Nat → Value) : Act := { tmps := #[.slice A0 n c0, u 1, .slice none 0 0, .pointer (some ⟨r, 0, none⟩), u 4, .pointer (some ⟨b5, 0, none⟩), .pointer (some ⟨b6, 0, none⟩), .int .i64 (i : Int), u 8, u 9, u 10, u 11, u 12, u 13, u 14, u 15, u 16, u 17, u 18, u 19, u 20, u 21, u 22, u 23, u 24, u 25, u 26, u 27, u 28, u 29, u 30, u 31, u 32, u 33, u 34, u 35, u 36, u 37, u 38, u 39, u 40, u 41, u 42, u 43, u 44, u 45, u 46, u 47, u 48, u 49, u 50, u 51, u 52, u 53, u 54, u 55, u 56, u 57, u 58, u 59], defers := Go.Proofs.YtimflmgdnfpodaaRF.coll ds }
open Go.Proofs.YtimflmgdnfpodaaFlow Go.Proofs.YtimflmgdnfpodaaRF Go.Proofs.YtimflmgdnfpodaaMp in
/-- Between two rounds of the outer loop. -/
structure flow_Reach.I (l0 : List (S40)) (w : World) (B b5 b6 : Nat) (i : Nat) (ws : List Int) (ds : List Nat) (wr : World) : Prop where
  le : i ≤ ws.length
  wt : flow_Reach.Wt l0.length ws
  ne : ws ≠ []
  eq : flow_Reach.go l0 (l0.length - i) i ws = flow_Reach.go l0 l0.length 0 [0]
  bR : wr.heap[w.heap.size]? = some (.cells #[.int .i64 0, .int .i64 0] 29 (0, 0))
  bM : wr.heap[B]? = some (MapObj (Value.int .i64) vmark (entsOf ws) ws.length)
  b5 : wr.heap[b5]? = some (.cells #[.map (some B)] 58 (0, 0))
  b6 : ∃ v, wr.heap[b6]? = some (.cells #[v] 24 (0, 0)) ∧ (Kd.int .i64).R 3 wr w.heap.size (fun _ => True) v ws
  bl : Below w.heap.size w wr
  idle : Idle ds wr
  lo : ∀ D ∈ ds, w.heap.size ≤ D
open Go.Proofs.YtimflmgdnfpodaaFlow Go.Proofs.YtimflmgdnfpodaaRF Go.Proofs.YtimflmgdnfpodaaMp in
/-- Between two rounds of the inner loop. -/
structure flow_Reach.J (l0 : List (S40)) (w : World) (B b5 b6 : Nat) (ws : List Int) (ds : List Nat) (pre : List Int) (O : Nat → Prop) (W : World) : Prop where
  wt : flow_Reach.Wt l0.length (flow_Reach.puts ws pre)
  bR : Mine w.heap.size (.cells #[.int .i64 0, .int .i64 0] 29 (0, 0)) O W
  bM : Mine B (MapObj (Value.int .i64) vmark (entsOf (flow_Reach.puts ws pre)) (flow_Reach.puts ws pre).length) O W
  b5 : Mine b5 (.cells #[.map (some B)] 58 (0, 0)) O W
  b6 : OutI (Value.int .i64) (fun _ => rfl) 24 3 w.heap.size w b6 (flow_Reach.puts ws pre) O W
  idle : Idle ds W
  off : ∀ k, O k → k ∉ ds
open Go.Proofs.YtimflmgdnfpodaaFlow Go.Proofs.YtimflmgdnfpodaaRF Go.Proofs.YtimflmgdnfpodaaMp in
theorem flow_Reach.J_stable (l0 : List (S40)) (w : World) (B b5 b6 : Nat) (ws : List Int) (ds : List Nat) : Stable (flow_Reach.J l0 w B b5 b6 ws ds) := fun pre O O' W W' h hm h1 h2 => by
  have hst : ∀ {b : Nat} {o : Obj}, Mine b o O W → Mine b o O' W' := fun hb => Mine.stable (β := Unit) (fun _ => _) (fun _ => _) () O O' W W' hb hm h1 h2
  exact ⟨h.wt, hst h.bR, hst h.bM, hst h.b5, OutI.stable _ _ _ _ _ _ (Nat.le_refl _) _ _ O O' W W' h.b6 hm h1 h2, h.idle.move hm (fun D hD hO => h.off D hO hD), fun k hk hd => (h2 k hk).elim (fun e => h.off k e hd) (fun e => by have := lt_of_at (h.idle.2 k hd); omega)⟩
open Go.Proofs.YtimflmgdnfpodaaFlow Go.Proofs.YtimflmgdnfpodaaRF in
theorem flow_Reach.leave {w W : World} {ds : List Nat} {tmps : Array Value} {v : Value} {l : List Int} {e at_ : Int} (h2 : tmps.getD 2 undef = v) (hp : tmps.getD 3 undef = .pointer (some ⟨w.heap.size, 0, none⟩)) (hb : Below w.heap.size w W) (hi : Idle ds W) (hlo : ∀ D ∈ ds, w.heap.size ≤ D)
    (h1 : W.heap[w.heap.size]? = some (.cells #[.int .i64 e, .int .i64 at_] 29 (0, 0))) (hR : (Kd.int .i64).R 3 W w.heap.size (fun _ => True) v l) :
    LeavesInM Fence.wide 6 Try.prog Try.f11 tmps (fun e' w' => ∃ v0_ : Value, e' = .returned (.tuple #[v0_, .agg #[.int .i64 e, .int .i64 at_]]) ∧ Kd.R (Kd.int .i64) 3 w' w.heap.size (fun _ => True) v0_ l ∧ Below w.heap.size w w') (coll ds) .returning W := by
  have hm : Mv (fun D => D ∈ ds) W (takeAll ds W) := takeAll_mv (fun D hD => hD)
  refine leaves_all ds W hi ?_
  have h1' := hm.at h1 (fun e => by have := hi.2 _ e; rw [h1] at this; cases this)
  refine ⟨_, results_tc rfl _ _ _ _ _ _ _ hp h1' Try.underlying29 rfl (by kernel_rfl), ?_⟩
  rw [h2]
  refine ⟨v, rfl, ?_, hb.trans (hm.below hb.size (fun D hD => hlo D hD))⟩
  exact Kd.R_mono (Kd.R_step (Kd.R_bound hR) (fun k hk hl => hm.block k hl (fun hd => by
    obtain ⟨_, _, _, q, _, cs, hc⟩ := hk
    have := hi.2 k hd
    rw [hc] at this; cases this))) (fun _ _ => trivial)
def flow_Reach.L (A0 : Option Addr) (c0 : Nat) (l0 : List (S40)) (w : World) (B b5 b6 : Nat) (a : Act) (wr : World) : Prop :=
  ∃ (i : Nat) (ws : List Int) (ds : List Nat) (u : Nat → Value), Aside0 (flow_Reach.I l0 w B b5 b6 i ws ds wr) ∧ a = flow_Reach.fr A0 l0.length c0 w.heap.size b5 b6 i ds u
theorem flow_Reach.L_mk {A0 : Option Addr} {c0 : Nat} {l0 : List (S40)} {w wr : World} {B b5 b6 i : Nat} {a : Act} {ws : List Int} {ds : List Nat} (h : flow_Reach.I l0 w B b5 b6 i ws ds wr) (ha : a = flow_Reach.fr A0 l0.length c0 w.heap.size b5 b6 i ds (fun n => a.tmps.getD n undef)) : flow_Reach.L A0 c0 l0 w B b5 b6 a wr :=
  ⟨i, ws, ds, fun n => a.tmps.getD n undef, ⟨h⟩, ha⟩
attribute [local go_sem high] eqA29
attribute [local go_sem] Oper.semAt_some
open Go.Proofs.YtimflmgdnfpodaaFlow Go.Proofs.YtimflmgdnfpodaaRF Go.Proofs.YtimflmgdnfpodaaRG Go.Proofs.YtimflmgdnfpodaaMp in
set_option maxHeartbeats 2000000 in
set_option maxRecDepth 100000 in
theorem flow_Reach.calls_bad (A0 : Option Addr) (c0 : Nat) (l0 : List (S40)) (t1 t2 : Int) (w : World) (hr0 : Kd.C k40 w A0 l0.length l0) (hc0 : l0.length ≤ c0) (hC : flow_Check.f l0 = some (t1, t2)) (hz : (!(t1 == 0) || (!(t2 == 0))) = true) :
    Calls Try.prog 11 #[.slice A0 l0.length c0] w fun e w' => ∃ v0_ : Value, e = .returned (.tuple #[v0_, .agg #[.int .i64 t1, .int .i64 t2]]) ∧ Kd.R (Kd.int .i64) 3 w' w.heap.size (fun _ => True) v0_ [] ∧ Below w.heap.size w w' := by
  have hu := Try.underlying40
  have huF := Try.underlying29
  have HC := Aside0.mk (flow_Check.calls A0 c0 l0 t1 t2 (w.alloc (.cells #[.int .i64 0, .int .i64 0] 29)) (Kd.C_alloc hr0 _) hc0 hC)
  have hz0 := hz
  clear hr0 hC
  refine (callsIn_wide (n := 6)).1 ?_
  refine callsIn_of_wp_marks Try.func11 rfl trivial ?_ rfl
  simp only [Try.ntmps11, List.size_toArray, List.length_cons, List.length_nil, Nat.reduceAdd, Nat.reduceSub, Array.replicate_succ, Array.replicate_zero, List.push_toArray, List.append_toArray, List.nil_append, List.cons_append]
  gi_wp2
  refine ⟨trivial, (callsIn_wide.2 HC.out).mono ?_⟩
  rintro e w1 ⟨rfl, hb⟩
  have HB := Aside0.mk hb
  clear hb HC
  gi_wp2
  obtain ⟨W, hW⟩ : ∃ W, W = w1.alloc (.cells #[.int .i64 t1, .int .i64 t2] 29) := ⟨_, rfl⟩
  have hB0 : Below w.heap.size w w1 := ((Below.refl _ _).alloc (Nat.le_refl _) _).trans (HB.out.mono (by simp))
  have hBW : Below w.heap.size w W := by rw [hW]; exact hB0.alloc hB0.size _
  have bR1 : w1.heap[w.heap.size]? = some (.cells #[.int .i64 0, .int .i64 0] 29 (0, 0)) := (HB.out.block _ (by simp)).trans (at_new w _ rfl)
  have bR : W.heap[w.heap.size]? = some (.cells #[.int .i64 0, .int .i64 0] 29 (0, 0)) := by rw [hW]; exact at_alloc bR1 _
  have bF : W.heap[w1.heap.size]? = some (.cells #[.int .i64 t1, .int .i64 t2] 29 (0, 0)) := by rw [hW]; exact at_new _ _ rfl
  rw [← hW]
  have BF := Aside0.mk bF
  have BR := Aside0.mk bR
  have HBW := Aside0.mk hBW
  clear hW hB0 hBW bR1 bR bF HB hz hz0
  refine rg_regionIn (r := none) (N := 60) 2 (fun A B => B = A) (by kernel_rfl) (by kernel_rfl) (by kernel_rfl) (fun _ _ h => by rcases h with ⟨_, h, _⟩; cases h) rfl (fun _ => rfl) (fun h1 h2 => h2.trans h1) ?_
  rw [show List.range 2 = [0, 1] from rfl]
  refine rg_val (.agg #[.int .i64 t1, .int .i64 t2]) (fun _ => rfl) rfl (fun _ _ _ _ => wanted_none rfl) ?_ ?_
  · intro a w' hr hs
    have h5 := hs.out 4 (by kernel_rfl)
    have bF := at_drew BF.out
    rw [← hr] at bF
    have c0 := cell_at bF 0
    have c1 := cell_at bF 1
    simp only [List.getElem?_toArray, List.getElem?_cons_zero, List.getElem?_cons_succ] at c0 c1
    clear hr bF
    go_simp
  refine rg_val (.slice none 0 0) (fun _ => rfl) rfl (fun _ _ _ _ => wanted_none rfl) ?_ ?_
  · intro a w' hr hs
    go_simp
  intro vs w5 hr hE
  rw [show List.range 2 = [0, 1] from rfl]
  simp only [List.mem_cons, List.not_mem_nil, or_false, forall_eq_or_imp, forall_eq] at hE
  obtain ⟨g1, g0⟩ := hE
  simp only [putL, slotOf, List.getElem?_toArray, List.getElem?_cons_succ, List.getElem?_cons_zero, Option.bind_some, Act.put, List.setIfInBounds_toArray, List.set_cons_succ, List.set_cons_zero, g1, g0]
  have bR := at_drew BR.out
  rw [← hr] at bR
  have c0 := cell_at bR 0
  have c1 := cell_at bR 1
  have f0 := free_at bR 0
  have f1 := free_at bR 1
  simp only [List.getElem?_toArray, List.getElem?_cons_zero, List.getElem?_cons_succ] at c0 c1
  have HBR := Aside0.mk bR
  have HR_ := Aside0.mk hr
  clear hr bR
  refine tail_skip (i := 2) (r := []) (w' := (w5.setCell ⟨w.heap.size, 0, none⟩ (.int .i64 t1)).setCell ⟨w.heap.size, 1, none⟩ (.int .i64 t2)) rfl (wanted_none rfl) (by go_simp) (tail_end ?_)
  have bE := blk_put (blk_put HBR.out 0 (.int .i64 t1) rfl) 1 (.int .i64 t2) rfl
  have hBE : Below w.heap.size w ((w5.setCell ⟨w.heap.size, 0, none⟩ (.int .i64 t1)).setCell ⟨w.heap.size, 1, none⟩ (.int .i64 t2)) := by
    rw [HR_.out]
    exact (((Mv.of_below HBW.out).drew.setCell (p := ⟨w.heap.size, 0, none⟩) (.inl (Nat.le_refl _)) _).setCell (p := ⟨w.heap.size, 1, none⟩) (.inl (Nat.le_refl _)) _).below (Nat.le_refl _) (fun _ h => h)
  have HBE := Aside0.mk hBE
  have BE := Aside0.mk bE
  obtain ⟨W6, hW6⟩ : ∃ W6, W6 = (w5.setCell ⟨w.heap.size, 0, none⟩ (.int .i64 t1)).setCell ⟨w.heap.size, 1, none⟩ (.int .i64 t2) := ⟨_, rfl⟩
  rw [← hW6] at BE HBE ⊢
  clear hW6 bE hBE HBR c0 c1 f0 f1 g0 g1 HR_ BF BR HBW
  gi_wp2
  exact flow_Reach.leave (ds := []) rfl rfl HBE.out (Idle.nil _) (fun _ h => by cases h) BE.out (Kd.R_nil _ _ _ _ _)
open Go.Proofs.YtimflmgdnfpodaaFlow Go.Proofs.YtimflmgdnfpodaaRF Go.Proofs.YtimflmgdnfpodaaRG Go.Proofs.YtimflmgdnfpodaaMp in
set_option maxHeartbeats 4000000 in
set_option maxRecDepth 100000 in
theorem flow_Reach.calls_ok (A0 : Option Addr) (c0 : Nat) (l0 : List (S40)) (w : World) (hr0 : Kd.C k40 w A0 l0.length l0) (hc0 : l0.length ≤ c0) (hC : flow_Check.f l0 = some (0, 0)) :
    Calls Try.prog 11 #[.slice A0 l0.length c0] w fun e w' => ∃ v0_ : Value, e = .returned (.tuple #[v0_, .agg #[.int .i64 0, .int .i64 0]]) ∧ Kd.R (Kd.int .i64) 3 w' w.heap.size (fun _ => True) v0_ (sortI (flow_Reach.go l0 l0.length 0 [0])) ∧ Below w.heap.size w w' := by
  have hu := Try.underlying40
  have huF := Try.underlying29
  have HC := Aside0.mk (flow_Check.calls A0 c0 l0 0 0 (w.alloc (.cells #[.int .i64 0, .int .i64 0] 29)) (Kd.C_alloc hr0 _) hc0 hC)
  obtain ⟨hpos, hlen, hat⟩ := flow_Reach.ok l0 hC
  have HTO := Aside0.mk (flow_Reach.ok_at l0 l0.length 0 hat)
  have HR0 := Aside0.mk hr0
  clear hr0 hC hat hc0
  refine (callsIn_wide (n := 6)).1 ?_
  refine callsIn_of_wp_marks Try.func11 rfl trivial ?_ rfl
  simp only [Try.ntmps11, List.size_toArray, List.length_cons, List.length_nil, Nat.reduceAdd, Nat.reduceSub, Array.replicate_succ, Array.replicate_zero, List.push_toArray, List.append_toArray, List.nil_append, List.cons_append]
  gi_wp2
  refine ⟨trivial, (callsIn_wide.2 HC.out).mono ?_⟩
  rintro e w1 ⟨rfl, hb⟩
  have hB0 : Below w.heap.size w w1 := ((Below.refl _ _).alloc (Nat.le_refl _) _).trans (hb.mono (by simp))
  have bR1 : w1.heap[w.heap.size]? = some (.cells #[.int .i64 0, .int .i64 0] 29 (0, 0)) := (hb.block _ (by simp)).trans (at_new w _ rfl)
  obtain ⟨W0, hW0⟩ : ∃ W0, W0 = w1.alloc (.cells #[.int .i64 0, .int .i64 0] 29) := ⟨_, rfl⟩
  obtain ⟨B, hB⟩ : ∃ B, B = W0.heap.size := ⟨_, rfl⟩
  obtain ⟨W1, hW1⟩ : ∃ W, W = W0.alloc (.map #[] 0) := ⟨_, rfl⟩
  have hmm : (Instr.makeMap 58 none).run Try.prog (w1.alloc (.cells #[.int .i64 0, .int .i64 0] 29)) = .ok (.map (some B)) W1 := by rw [← hW0, hW1, hB]; rfl
  have hBW0 : Below w.heap.size w W0 := by rw [hW0]; exact hB0.alloc hB0.size _
  have hBW1 : Below w.heap.size w W1 := by rw [hW1]; exact hBW0.alloc hBW0.size _
  have hBlt : w.heap.size < B := by rw [hB, hW0]; have := hB0.size; simp; omega
  have bM1 : W1.heap[B]? = some (MapObj (Value.int .i64) vmark (entsOf []) 0) := by rw [hW1]; exact at_new _ _ hB
  have bRW1 : W1.heap[w.heap.size]? = some (.cells #[.int .i64 0, .int .i64 0] 29 (0, 0)) := by rw [hW1, hW0]; exact at_alloc (at_alloc bR1 _) _
  have hup := update_run (P := Try.prog) (T := 58) (venc := vmark) int_law Try.underlying58 bM1 0 0
  rw [show upd ieq 0 0 0 (entsOf []) = (entsOf [0], 1) from entsOf_put 0 [] (by simp)] at hup
  obtain ⟨W2, hW2⟩ : ∃ W2, W2 = W1.putObj B (MapObj (Value.int .i64) vmark (entsOf [0]) 1) := ⟨_, rfl⟩
  simp only [vmark] at hup
  have hu2 : (Instr.mapUpdate 58 (.map (some B)) (.int .i64 0) (.agg #[.int .i64 0])).run Try.prog W1 = .ok () W2 := by rw [hW2]; exact hup
  have hBW2 : Below w.heap.size w W2 := by rw [hW2]; exact below_put hBW1 (Nat.le_of_lt hBlt) _
  have bM2 : W2.heap[B]? = some (MapObj (Value.int .i64) vmark (entsOf [0]) 1) := by rw [hW2]; exact World.putObj_heap_same (lt_of_at bM1)
  have bRW2 : W2.heap[w.heap.size]? = some (.cells #[.int .i64 0, .int .i64 0] 29 (0, 0)) := by rw [hW2]; exact at_put bRW1 (by omega) _
  have H2 := Aside0.mk (And.intro hBW2 (And.intro bM2 (And.intro bRW2 hBlt)))
  clear hb hB0 bR1 hB hW1 hBW0 hBW1 bM1 bRW1 hup hW2 hBW2 bM2 bRW2 HC hBlt hW0
  gi_wp2
  obtain ⟨b5, hb5⟩ : ∃ b, b = W2.heap.size + 1 := ⟨_, rfl⟩
  obtain ⟨b6, hb6⟩ : ∃ b, b = b5 + 1 := ⟨_, rfl⟩
  rw [← hb5, ← hb6]
  obtain ⟨hBW2, bM2, bRW2, hBlt⟩ := H2.out
  have hb2s := hBW2.size
  have hBs := lt_of_at bM2
  have HI0 : flow_Reach.I l0 w B b5 b6 0 [0] [] (((W2.alloc (.cells #[.int .i64 0] 3)).alloc (.cells #[.map (some B)] 58)).alloc (.cells #[.slice (some ⟨W2.heap.size, 0, none⟩) 1 1] 24)) := by
    refine ⟨Nat.zero_le _, ⟨fun x hx => by rw [List.mem_singleton.1 hx]; omega, by simp⟩, by simp, rfl, at_alloc (at_alloc (at_alloc bRW2 _) _) _, at_alloc (at_alloc (at_alloc bM2 _) _) _, at_alloc (at_new _ _ (by rw [hb5]; simp)) _, ⟨_, at_new _ _ (by rw [hb6, hb5]; simp), ?_⟩, ((hBW2.alloc hb2s _).alloc (by simp; omega) _).alloc (by simp; omega) _, Idle.nil _, fun _ h => by cases h⟩
    have := R_lits W2 w.heap.size [0] hb2s (by simp)
    exact Kd.R_alloc (Kd.R_alloc (by simpa [encs] using this) _) _
  have HB56 := Aside0.mk (And.intro hBlt (And.intro (show B < b5 by omega) (show b5 < b6 by omega)))
  refine wpIn_loop (flow_Reach.L A0 c0 l0 w B b5 b6) (fun a _ => l0.length - (intOf (a.tmps.getD 7 undef)).toNat) (flow_Reach.L_mk HI0 rfl) ?_
  clear HI0 hb5 hb6 hb2s hBs hBW2 bM2 bRW2 hBlt H2 hmm hu2
  rintro a wr ⟨i, ws, ds, u, HI, rfl⟩
  unfold flow_Reach.fr
  obtain ⟨v6, h6, hR6⟩ := HI.out.b6
  obtain ⟨A6, c6, hv6⟩ := Kd.R_slice hR6
  subst hv6
  have e6 := cell_at h6 0
  simp only [List.getElem?_toArray, List.getElem?_cons_zero] at e6
  have H6 := Aside0.mk (And.intro h6 hR6)
  by_cases hlt : i < ws.length
  · obtain ⟨A6', c6', e', _, hC6⟩ := Kd.R_reads hR6
    cases e'
    have hrd := Kd.reads_of_C (d := (0 : Int)) hC6
    obtain ⟨ad6, hA6, y0⟩ := hrd.at_ (i : Int) (by omega) (by omega)
    rw [Int.toNat_natCast] at y0
    subst hA6
    obtain ⟨p, hp⟩ : ∃ p, p = rdOf 0 ws (i : Int) := ⟨_, rfl⟩
    rw [← hp] at y0
    have hpd : p = ws.getD i 0 := by rw [hp]; unfold rdOf; rw [Int.toNat_natCast]
    have hpm : p ∈ ws := by rw [hpd, List.getD_eq_getElem?_getD, List.getElem?_eq_getElem hlt]; exact List.getElem_mem hlt
    obtain ⟨hp0, hp1⟩ := HI.out.wt.wf p hpm
    obtain ⟨ad, hA, x0, x1, x2, x3⟩ := at_T40 (Kd.C_below HR0.out HI.out.bl) p hp0 hp1
    subst hA
    obtain ⟨x, hx⟩ : ∃ x, x = rd_T40 l0 p := ⟨_, rfl⟩
    have HX := Aside0.mk hx
    have HP := Aside0.mk (And.intro hpd (And.intro hp0 hp1))
    have HCC := Aside0.mk (show ∀ w', Grows wr.drew w' → ∃ q, w'.cell? ⟨b6, 0, none⟩ = some (.slice (some ad6) ws.length c6) ∧ w'.cell? (ad6.add i) = some (.int .i64 p) ∧ w'.cell? (ad.add (p.toNat * 4)) = some (.int .i64 x.f0) ∧ w'.cell? ⟨(ad.add (p.toNat * 4)).block, (ad.add (p.toNat * 4)).off + 1, none⟩ = some (.int .i64 x.f1) ∧ w'.cell? ⟨(ad.add (p.toNat * 4)).block, (ad.add (p.toNat * 4)).off + 2, none⟩ = some (.int .i64 x.f2) ∧ w'.cell? ⟨(ad.add (p.toNat * 4)).block, (ad.add (p.toNat * 4)).off + 3, none⟩ = some (.int .i64 x.f3) ∧ q = (0 : Nat) from fun w' hg => by
      have hgw : Below wr.heap.size wr w' := ⟨hg.os, hg.tape, hg.output, hg.size, hg.block⟩
      have k6 := cell_at ((hgw.block _ (lt_of_at h6)).trans h6) 0
      simp only [List.getElem?_toArray, List.getElem?_cons_zero] at k6
      obtain ⟨_, hA6, z0⟩ := (Kd.reads_of_C (d := (0 : Int)) (Kd.C_below hC6 hgw)).at_ (i : Int) (by omega) (by omega)
      cases hA6
      rw [Int.toNat_natCast, ← hp] at z0
      obtain ⟨_, hA, x0, x1, x2, x3⟩ := at_T40 (Kd.C_below (Kd.C_below HR0.out HI.out.bl) hgw) p hp0 hp1
      cases hA
      rw [← hx] at x0 x1 x2 x3
      exact ⟨0, k6, z0, x0, x1, x2, x3, rfl⟩)
    have HLT := Aside0.mk hlt
    clear hrd hC6 hpd hpm hp0 hp1 hx x0 x1 x2 x3 hp y0 h6 hR6
    gi_wp2
    refine rg_regionIn (r := none) (N := 60) 12 Grows (by kernel_rfl) (by kernel_rfl) (by kernel_rfl) (fun _ _ h => by rcases h with ⟨_, h, _⟩; cases h) rfl Grows.refl Grows.trans ?_
    rw [show List.range 12 = [0, 1, 2, 3, 4, 5, 6, 7, 8, 9, 10, 11] from rfl]
    refine rg_val (.slice (some ad) l0.length c0) Grows.refl rfl (fun _ _ _ _ => wanted_none rfl) ?_ ?_
    · intro a w' hr hs
      have h0 := hs.out 0 (by kernel_rfl)
      go_simp
    refine rg_val (.slice (some ad6) ws.length c6) Grows.refl rfl (fun _ _ _ _ => wanted_none rfl) ?_ ?_
    · intro a w' hr hs
      have h0 := hs.out 6 (by kernel_rfl)
      obtain ⟨_, k6, _⟩ := HCC.out w' hr
      clear hr
      go_simp
    refine rg_val (.int .i64 (i : Int)) Grows.refl rfl (fun _ _ _ _ => wanted_none rfl) ?_ ?_
    · intro a w' hr hs
      have h0 := hs.out 7 (by kernel_rfl)
      go_simp
    refine rg_val (.pointer (some (ad6.add i))) Grows.refl rfl (fun _ _ _ _ => wanted_none rfl) ?_ ?_
    · intro a w' hr hs
      have h0 := hs.get 1 rfl (by kernel_rfl) rfl
      have h1 := hs.get 0 rfl (by kernel_rfl) rfl
      simp only at h0 h1
      clear hr
      go_simp
    refine rg_val (.int .i64 p) Grows.refl rfl (fun _ _ _ _ => wanted_none rfl) ?_ ?_
    · intro a w' hr hs
      have h0 := hs.get 0 rfl (by kernel_rfl) rfl
      simp only at h0
      obtain ⟨_, _, z0, _⟩ := HCC.out w' hr
      clear hr
      go_simp
    refine rg_val (.pointer (some (ad.add (p.toNat * 4)))) Grows.refl rfl (fun _ _ _ _ => wanted_none rfl) ?_ ?_
    · intro a w' hr hs
      have h0 := hs.get 4 rfl (by kernel_rfl) rfl
      have h1 := hs.get 0 rfl (by kernel_rfl) rfl
      simp only at h0 h1
      have hp0 := HP.out.2.1
      have hp1 := HP.out.2.2
      clear hr
      go_simp
    refine rg_val (.agg #[.int .i64 x.f0, .int .i64 x.f1, .int .i64 x.f2, .int .i64 x.f3]) Grows.refl rfl (fun _ _ _ _ => wanted_none rfl) ?_ ?_
    · intro a w' hr hs
      have h0 := hs.get 0 rfl (by kernel_rfl) rfl
      simp only at h0
      obtain ⟨_, _, _, x0, x1, x2, x3, _⟩ := HCC.out w' hr
      clear hr
      go_simp
    refine rg_val (.slice (some ad6) ws.length c6) Grows.refl rfl (fun _ _ _ _ => wanted_none rfl) ?_ ?_
    · intro a w' hr hs
      have h0 := hs.out 6 (by kernel_rfl)
      obtain ⟨_, k6, _⟩ := HCC.out w' hr
      clear hr
      go_simp
    refine rg_val (.int .i64 (i : Int)) Grows.refl rfl (fun _ _ _ _ => wanted_none rfl) ?_ ?_
    · intro a w' hr hs
      have h0 := hs.out 7 (by kernel_rfl)
      go_simp
    refine rg_val (.pointer (some (ad6.add i))) Grows.refl rfl (fun _ _ _ _ => wanted_none rfl) ?_ ?_
    · intro a w' hr hs
      have h0 := hs.get 1 rfl (by kernel_rfl) rfl
      have h1 := hs.get 0 rfl (by kernel_rfl) rfl
      simp only at h0 h1
      clear hr
      go_simp
    refine rg_val (.int .i64 p) Grows.refl rfl (fun _ _ _ _ => wanted_none rfl) ?_ ?_
    · intro a w' hr hs
      have h0 := hs.get 0 rfl (by kernel_rfl) rfl
      simp only at h0
      obtain ⟨_, _, z0, _⟩ := HCC.out w' hr
      clear hr
      go_simp
    refine rg_call (fun v w' => ∃ (g : Nat) (A : Option Addr) (c : Nat), v = .func (.func 38) #[] #[.pointer (some ⟨g, 0, none⟩)] ∧ wr.heap.size ≤ g ∧ w'.heap[g]? = some (.cells #[.slice A (goesL x.f0 x.f1 p).length c] 24 (0, 0)) ∧ (Kd.int .i64).R 3 w' wr.heap.size (fun _ => True) (.slice A (goesL x.f0 x.f1 p).length c) (goesL x.f0 x.f1 p)) (fun v wa wb hg => by
      rintro ⟨g, A, c, hv, hg0, hgc, hR⟩
      exact ⟨g, A, c, hv, hg0, (hg.block _ (lt_of_at hgc)).trans hgc, Kd.R_below hR hg⟩) rfl rfl Try.func27 (by kernel_rfl) rfl (fun _ _ _ _ => wanted_none rfl) ?_ ?_
    · intro a w' hr hs
      have h0 := hs.get 4 rfl (by kernel_rfl) rfl
      have h1 := hs.get 0 rfl (by kernel_rfl) rfl
      simp only at h0 h1
      rw [show (#[Operand.tmp 33, Operand.tmp 37] : Array Operand).map a.eval = #[.agg #[.int .i64 x.f0, .int .i64 x.f1, .int .i64 x.f2, .int .i64 x.f3], .int .i64 p] by simp [Act.eval, h0, h1]]
      refine (goes_calls x.f0 x.f1 x.f2 x.f3 p w').mono ?_
      rintro e w3 ⟨⟨g, A, c, rfl, hg0, hg, hR⟩, hb⟩
      have hsz : wr.heap.size ≤ w'.heap.size := hr.size
      exact ⟨_, rfl, hb, g, A, c, rfl, by omega, hg, Kd.R_lower hR hsz⟩
    intro vs w5 hr hE
    rw [show List.range 12 = [0, 1, 2, 3, 4, 5, 6, 7, 8, 9, 10, 11] from rfl]
    simp only [List.mem_cons, List.not_mem_nil, or_false, forall_eq_or_imp, forall_eq] at hE
    obtain ⟨g11, g10, g9, g8, g7, g6, g5, g4, g3, g2, g1, g0⟩ := hE
    obtain ⟨g, A, c, g11, hg0, hg, hR⟩ := g11
    simp only [putL, slotOf, List.getElem?_toArray, List.getElem?_cons_succ, List.getElem?_cons_zero, Option.bind_some, Act.put, List.setIfInBounds_toArray, List.set_cons_succ, List.set_cons_zero, g11, g10, g9, g8, g7, g6, g5, g4, g3, g2, g1, g0]
    refine tail_end ?_
    have hb5 : Below wr.heap.size wr w5 := ⟨hr.os, hr.tape, hr.output, hr.size, hr.block⟩
    obtain ⟨L, hL⟩ : ∃ L, L = goesL x.f0 x.f1 p := ⟨_, rfl⟩
    rw [← hL] at hg hR
    have HL := Aside0.mk hL
    have HGG := Aside0.mk (And.intro hg0 (And.intro hg (And.intro hR hb5)))
    clear hL hg0 hg hR hb5 hr g11 g10 g9 g8 g7 g6 g5 g4 g3 g2 g1 g0 HCC
    gi_wp2
    obtain ⟨hg0, hg, hR, hb5⟩ := HGG.out
    have hws := HI.out.bl.size
    have hw5s := hb5.size
    have hidlt : ∀ D ∈ ds, D < wr.heap.size := fun D hD => lt_of_at (HI.out.idle.2 D hD)
    have hcc : L.length ≤ c := by
      obtain ⟨A', c', e, hh, _⟩ := Kd.R_reads hR
      cases e; exact hh
    have hll : L.length < 4398046511104 := by
      rw [HL.out]
      unfold goesL
      split
      · simp
      · split
        · simp
        · split <;> simp
    have hOO : ∀ k, (k = g ∨ (Value.slice A L.length c).ownBlock = some k) → wr.heap.size ≤ k ∧ k < w5.heap.size := by
      rintro k (rfl | hk)
      · exact ⟨by omega, lt_of_at hg⟩
      · have := (Kd.R_bound hR).1 k hk
        exact ⟨by omega, this.2.2.1⟩
    refine rf_loop (n := 6) rfl (by omega) 38 #[.pointer (some ⟨g, 0, none⟩)] rfl trivial (enters_ Try.func38 (by kernel_rfl) rfl)
      (fun x : Int => #[.int .i64 x]) (fun _ => rfl) (fun k => k = g ∨ (Value.slice A L.length c).ownBlock = some k) (fun _ => False) (fun k hk => (hOO k hk).2) (fun k h => h.elim)
      (each1_iter 5 (by omega) A c L g wr.heap.size w5 hll hcc hg hR)
      (flow_Reach.J l0 w B b5 b6 ws ds) (fun _ _ _ _ => False) (flow_Reach.J_stable l0 w B b5 b6 ws ds) (fun _ _ _ _ _ _ h _ _ _ => h.elim) ?_
      (fun y => { tmps := #[.slice (some ad) l0.length c0, u 1, .slice none 0 0, .pointer (some ⟨w.heap.size, 0, none⟩), u 4, .pointer (some ⟨b5, 0, none⟩), .pointer (some ⟨b6, 0, none⟩), .int .i64 (i : Int), .int .i64 y, u 9, u 10, u 11, u 12, u 13, u 14, u 15, u 16, u 17, u 18, u 19, u 20, .int .i64 (i : Int), .slice (some ad6) ws.length c6, .int .i64 (ws.length : Int), .bool true, u 25, u 26, .slice (some ad) l0.length c0, .slice (some ad6) ws.length c6, .int .i64 (i : Int), .pointer (some (ad6.add i)), .int .i64 p, .pointer (some (ad.add (p.toNat * 4))), .agg #[.int .i64 x.f0, .int .i64 x.f1, .int .i64 x.f2, .int .i64 x.f3], .slice (some ad6) ws.length c6, .int .i64 (i : Int), .pointer (some (ad6.add i)), .int .i64 p, .func (.func 38) #[] #[.pointer (some ⟨g, 0, none⟩)], .int .i64 y, u 40, u 41, u 42, u 43, u 44, u 45, u 46, u 47, u 48, u 49, u 50, u 51, u 52, u 53, u 54, u 55, u 56, u 57, u 58, u 59], defers := [] }) ?assign ?body ?done (fun _ _ _ _ _ _ _ _ h _ => h.elim)
    · intro O hO W hW
      have hlo : ∀ k, O k → wr.heap.size ≤ k := fun k hk => by
        rcases hO k hk with h | h
        · exact (hOO k h).1
        · omega
      have hWb : Below wr.heap.size wr W := hb5.trans (hW.below hw5s (fun _ h => h.elim))
      have go : ∀ {b : Nat} {o : Obj}, wr.heap[b]? = some o → Mine b o O W := fun h => ⟨(hWb.block _ (lt_of_at h)).trans h, fun e => by have := hlo _ e; have := lt_of_at h; omega⟩
      obtain ⟨h6, hR6⟩ := H6.out
      refine ⟨HI.out.wt, go HI.out.bR, go HI.out.bM, go HI.out.b5, ⟨⟨_, go h6, ?_⟩, HI.out.bl.trans (hWb.mono hws), fun k hk => by have := hlo k hk; omega⟩, HI.out.idle.move (Mv.of_pure hWb (fun _ => False)) (fun _ _ h => h), fun k hk hd => by have := hlo k hk; have := hidlt k hd; omega⟩
      exact Kd.R_mono (Kd.R_step (Kd.R_bound hR6) (fun k hk hl => hWb.block k hl)) (fun k hk e => by have := hlo k e; have := hk.2.2.1; omega)
    case assign =>
      intro l x W K hK
      gi_wp2
      exact hK
    case body =>
      intro l pre y O W hI hpre hOl hOlp hrec hOO2 hsz2
      have hyn : 0 ≤ y ∧ y < (l0.length : Int) := by
        refine HTO.out p.toNat (Nat.zero_le _) (by have := HP.out.2; omega) y ?_
        rw [show ((p.toNat : Nat) : Int) = p by have := HP.out.2; omega]
        unfold flow_Reach.to
        rw [← HX.out, ← HL.out]
        exact hpre.subset (by simp)
      obtain ⟨mk, hlk⟩ := lookup_mark hI.bM.1 y
      rw [entsOf_find] at hlk
      have cm := cell_at hI.b5.1 0
      simp only [List.getElem?_toArray, List.getElem?_cons_zero] at cm
      have hps := flow_Reach.puts_snoc ws pre y
      have HJ := Aside0.mk hI
      have HOL := Aside0.mk hOl
      have HY := Aside0.mk hyn
      clear hI hpre hOl hOlp hrec hOO2 hsz2 HR0 HX HL HP HLT HGG hg0 hg hR hb5 hws hw5s hidlt hcc hll hOO HTO hyn
      by_cases hin : y ∈ flow_Reach.puts ws pre
      · rw [decide_eq_true hin] at hlk
        have hps2 : flow_Reach.puts ws (pre ++ [y]) = flow_Reach.puts ws pre := by rw [hps]; unfold flow_Reach.put; rw [if_pos hin]
        have h1 := HJ.out
        have fin : ∀ W', Mv (fun _ => False) W W' → flow_Reach.J l0 w B b5 b6 ws ds (pre ++ [y]) O W' := fun W' hm => by
          have h2 := flow_Reach.J_stable l0 w B b5 b6 ws ds pre O O W W' HJ.out (hm.mono (fun _ _ h => h.elim)) (fun _ h => h) (fun _ h => .inl h)
          exact ⟨by rw [hps2]; exact h2.wt, h2.bR, by rw [hps2]; exact h2.bM, h2.b5, by rw [hps2]; exact h2.b6, h2.idle, h2.off⟩
        have FIN := Aside0.mk fin
        clear hps hps2 fin hin h1 HJ
        gi_wp2
        exact ⟨(Mv.refl _ _).alloc _, FIN.out _ ((Mv.refl _ _).alloc _)⟩
      · rw [decide_eq_false hin] at hlk
        have hps2 : flow_Reach.puts ws (pre ++ [y]) = flow_Reach.puts ws pre ++ [y] := by rw [hps]; unfold flow_Reach.put; rw [if_neg hin]
        obtain ⟨Y, hY⟩ : ∃ Y, Y = flow_Reach.puts ws pre := ⟨_, rfl⟩
        rw [← hY] at hin hps2
        have hwt : flow_Reach.Wt l0.length (Y ++ [y]) := by
          have := HJ.out.wt.put y HY.out
          rw [← hY] at this
          unfold flow_Reach.put at this
          rw [if_neg hin] at this
          exact this
        have hYl := hwt.len
        obtain ⟨W4, hW4⟩ : ∃ W4, W4 = W.alloc (.cells #[.int .i64 mk] 57) := ⟨_, rfl⟩
        have hmv4 : Mv (fun _ => False) W W4 := by rw [hW4]; exact (Mv.refl _ _).alloc _
        have h4 := flow_Reach.J_stable l0 w B b5 b6 ws ds pre O O W W4 HJ.out (hmv4.mono (fun _ _ h => h.elim)) (fun _ h => h) (fun _ h => .inl h)
        have hup := update_run (P := Try.prog) (T := 58) (venc := vmark) int_law Try.underlying58 h4.bM.1 y y
        rw [← hY, entsOf_put y Y hin] at hup
        obtain ⟨W5, hW5⟩ : ∃ W5, W5 = W4.putObj B (MapObj (Value.int .i64) vmark (entsOf (Y ++ [y])) (Y ++ [y]).length) := ⟨_, rfl⟩
        simp only [vmark] at hup
        have hu5 : (Instr.mapUpdate 58 (.map (some B)) (.int .i64 y) (.agg #[.int .i64 y])).run Try.prog (W.alloc (.cells #[.int .i64 mk] 57)) = .ok () W5 := by rw [← hW4, hW5]; exact hup
        have hmv5 : Mv (fun k => k = B) W4 W5 := by rw [hW5]; exact (Mv.refl (fun k => k = B) W4).putObj (.inl rfl) _
        have cm4 := cell_at h4.b5.1 0
        simp only [List.getElem?_toArray, List.getElem?_cons_zero] at cm4
        rw [hW4] at cm4
        have hOB := h4.bM.2
        have bM5 : W5.heap[B]? = some (MapObj (Value.int .i64) vmark (entsOf (Y ++ [y])) (Y ++ [y]).length) := by rw [hW5]; exact World.putObj_heap_same (lt_of_at h4.bM.1)
        obtain ⟨⟨v, m6, r6⟩, bl6, lo6⟩ := h4.b6
        rw [← hY] at r6
        have m65 : Mine b6 (.cells #[v] 24 (0, 0)) O W5 := m6.move hmv5 (fun e => by have := h4.bM.1; rw [← e, m6.1] at this; cases this)
        have r65 : (Kd.int .i64).R 3 W5 w.heap.size (fun k => ¬ O k) v Y := Kd.R_mono (Kd.R_step (Kd.R_bound r6) (fun k hk hl => hmv5.block k hl (fun e => by
          obtain ⟨_, _, _, q, _, cs, hc⟩ := hk
          have := h4.bM.1
          rw [← e, hc] at this; cases this))) (fun k hk => hk.1)
        have bl5 : Below w.heap.size w W5 := bl6.trans (hmv5.below bl6.size (fun k h => by have := HB56.out.1; omega))
        have b55 : Mine b5 (.cells #[.map (some B)] 58 (0, 0)) O W5 := h4.b5.move hmv5 (fun e => by have := HB56.out.2.1; omega)
        have bR5 : Mine w.heap.size (.cells #[.int .i64 0, .int .i64 0] 29 (0, 0)) O W5 := h4.bR.move hmv5 (fun e => by have := HB56.out.1; omega)
        have idle5 : Idle ds W5 := h4.idle.move hmv5 (fun D hD e => by have h7 := h4.idle.2 D hD; rw [show D = B from e, h4.bM.1] at h7; cases h7)
        have hmvA : Mv (fun k => ¬ (O k ∨ False)) W W5 := (hmv4.mono (fun _ _ h => h.elim)).trans (hmv5.mono (fun k _ h => by rw [h]; exact fun e => e.elim hOB id))
        have hOl5 : ∀ k, O k → k < W5.heap.size := fun k h => Nat.lt_of_lt_of_le (HOL.out k h) hmvA.size
        obtain ⟨A, c, hv⟩ := Kd.R_slice r65
        subst hv
        have ce := cell_at m65.1 0
        have fe := free_at m65.1 0
        simp only [List.getElem?_toArray, List.getElem?_cons_zero] at ce
        have HN5 := Aside0.mk (And.intro bM5 (And.intro b55 (And.intro bR5 (And.intro idle5 (And.intro hmvA hOB)))))
        have H65 := Aside0.mk (And.intro m65 (And.intro r65 (And.intro bl5 (And.intro lo6 hOl5))))
        have HWT := Aside0.mk (And.intro hwt (And.intro hps2 hYl))
        clear hps hps2 hY hwt hYl hW4 hmv4 h4 hup hW5 hmv5 hOB bM5 m6 r6 bl6 lo6 m65 r65 bl5 b55 bR5 idle5 hmvA hOl5 hin
        gi_wp2_with (gi_at_builtin; refine rf_append1 (Value.int .i64) (h1c := fun _ => rfl) _ rfl _ _ 24 3 (.int .i64 0) 8 rfl Try.underlying24 infoI rfl (by decide) w.heap.size (fun k => ¬ O k) (.slice A Y.length c) Y y W5.heap.size 1 rfl rfl ?hg (Kd.R_alloc H65.out.2.1 _) ?hb ?hl ?_)
        case hg => exact (cell_at (at_new W5 _ rfl) 0).trans rfl
        case hb => have := H65.out.2.2.1.size; simp; omega
        case hl => have := HWT.out.2.2; simp at this; omega
        intro v1 w1 hR1 hg1
        obtain ⟨bM5, b55, bR5, idle5, hmvA, hOB⟩ := HN5.out
        obtain ⟨m65, r65, bl5, lo6, hOl5⟩ := H65.out
        obtain ⟨W6, hW6⟩ : ∃ W6, W6 = W5.alloc (.cells #[.int .i64 y] 3) := ⟨_, rfl⟩
        have hs6 : W6.heap.size = W5.heap.size + 1 := by rw [hW6]; simp
        rw [← hW6] at hg1
        have hmv6 : Mv (fun _ => False) W5 W6 := by rw [hW6]; exact (Mv.refl _ _).alloc _
        have key := OutI.put (T := 24) (n₀ := w.heap.size) (w0 := w) (by decide) (Nat.le_refl _) (by have := HB56.out; omega) hOl5 m65 r65 bl5 lo6 hmv6 (Kd.R_mono hR1 (fun k h => h.imp id (fun h => by omega))) hg1
        have keep : ∀ (k : Nat) (o : Obj), W5.heap[k]? = some o → (∀ cs, o ≠ .cells cs 3 (0, 0)) → k ≠ b6 → (w1.setCell ⟨b6, 0, none⟩ v1).heap[k]? = some o := fun k o hk ho hne => by
          refine at_set ((hg1.block k (lt_of_at (hmv6.at hk (fun h => h))) (fun e => ?_)).trans (hmv6.at hk (fun h => h))) hne v1
          obtain ⟨cs, hcs⟩ := Kd.R_typed r65 k e.symm
          rw [hk] at hcs
          exact ho cs (Option.some.inj hcs)
        have hm1 := (hg1.block b6 (lt_of_at (hmv6.at m65.1 (fun h => h))) (Kd.R_ne r65 m65.1 (by decide))).trans (hmv6.at m65.1 (fun h => h))
        have hc := cell_at hm1 0
        have hf := free_at hm1 0
        simp only [List.getElem?_toArray, List.getElem?_cons_zero] at hc
        have nB := HB56.out
        have FIN : Aside0 (Mv (fun k => ¬ (O k ∨ False)) W (w1.setCell ⟨b6, 0, none⟩ v1) ∧ flow_Reach.J l0 w B b5 b6 ws ds (pre ++ [y]) O (w1.setCell ⟨b6, 0, none⟩ v1)) := by
          refine ⟨hmvA.trans (key.1.mono (fun k _ h => fun e => h (e.imp id (fun h => h.elim)))), ?_⟩
          refine ⟨by rw [HWT.out.2.1]; exact HWT.out.1, ⟨keep _ _ bR5.1 (fun cs e => by cases e) (by omega), bR5.2⟩, ⟨?_, hOB⟩, ⟨keep _ _ b55.1 (fun cs e => by cases e) (by omega), b55.2⟩, by rw [HWT.out.2.1]; exact key.2, ⟨idle5.1, fun D hD => keep _ _ (idle5.2 D hD) (fun cs e => by cases e) (fun e => by have h7 := idle5.2 D hD; rw [e, m65.1] at h7; cases h7)⟩, HJ.out.off⟩
          rw [HWT.out.2.1]
          exact keep _ _ bM5 (fun cs e => by cases e) (by omega)
        obtain ⟨A1, c1, hv1⟩ := Kd.R_slice hR1
        rw [List.length_append, List.length_singleton] at hv1
        subst hv1
        clear key keep hm1 hR1 hg1 hmv6 hs6 hW6 nB bM5 b55 bR5 idle5 hmvA hOB m65 r65 bl5 lo6 hOl5
        gi_wp2
        exact FIN.out
    case done =>
      intro D xs O W hD hOD hOl hS hI hK
      subst hS
      have hlt := HLT.out
      have hst := flow_Reach.go_step l0 i ws (by have := HI.out.wt.len; omega) hlt
      rw [HI.out.eq, ← HP.out.1] at hst
      have hto : flow_Reach.to l0 p = uniq L := by unfold flow_Reach.to; rw [HL.out, HX.out]
      rw [hto] at hst
      have hnd : D ∉ ds := hI.off D hOD
      obtain ⟨v9, m9, r9⟩ := hI.b6.box
      have hpl := (flow_Reach.puts_pre ws (uniq L)).length_le
      have NEW := Aside0.mk (show flow_Reach.I l0 w B b5 b6 (i + 1) (flow_Reach.puts ws (uniq L)) (D :: ds) W from ⟨by omega, hI.wt, fun e => by have h9 := congrArg List.length e; simp only [List.length_nil] at h9; omega, hst.symm, hI.bR.1, hI.bM.1, hI.b5.1, ⟨v9, m9.1, Kd.R_mono r9 (fun _ _ => trivial)⟩, hI.b6.bl, hI.idle.cons D hK hnd, fun E hE => by
        rcases List.mem_cons.1 hE with rfl | hE
        · exact hI.b6.lo _ hOD
        · exact HI.out.lo _ hE⟩)
      have HIN := Aside0.mk (show i < l0.length by have := HI.out.wt.len; omega)
      clear hI hK hst hto hnd m9 r9 hpl hOl hOD HR0 HX HL HP HLT HGG hg0 hg hR hb5 hws hw5s hidlt hcc hll hOO HTO hD HI H6 e6 hlt
      have hin_ := HIN.out
      gi_wp2
      refine ⟨flow_Reach.L_mk (i := i + 1) (ds := D :: ds) NEW.out rfl, ?_⟩
      have := HIN.out
      show l0.length - ((i : Int) + 1).toNat < l0.length - (i : Int).toNat
      omega
  · clear h6 hR6
    have e5 := cell_at HI.out.b5 0
    simp only [List.getElem?_toArray, List.getElem?_cons_zero] at e5
    have hfin : flow_Reach.go l0 l0.length 0 [0] = ws := by rw [← HI.out.eq]; exact flow_Reach.go_end l0 _ i ws (by omega)
    have HFIN := Aside0.mk hfin
    clear hfin
    have HHB := Aside0.mk (lt_of_at HI.out.bM)
    have HSK := Aside0.mk (SortedKeys_calls B wr.heap.size ws (wr.alloc (.cells #[.map (some B)] 58)) HI.out.ne (by have := HI.out.wt.len; omega) HHB.out (at_new _ _ rfl) (at_alloc HI.out.bM _))
    gi_wp2
    refine ⟨trivial, (callsIn_wide.2 (Keys_calls B wr)).mono ?_⟩
    rintro e w2 ⟨rfl, rfl⟩
    clear e5 e6
    gi_wp2
    refine ⟨trivial, (callsIn_wide.2 HSK.out).mono ?_⟩
    rintro e w3 ⟨v3, rfl, hR3, hb3⟩
    clear HSK
    have hbA : Below wr.heap.size wr w3 := ((Below.refl _ _).alloc (Nat.le_refl _) _).trans hb3
    have bR3 := (hbA.block _ (lt_of_at HI.out.bR)).trans HI.out.bR
    have c0_ := cell_at bR3 0
    have c1_ := cell_at bR3 1
    have f0_ := free_at bR3 0
    have f1_ := free_at bR3 1
    simp only [List.getElem?_toArray, List.getElem?_cons_zero, List.getElem?_cons_succ] at c0_ c1_
    have hws := HI.out.bl.size
    have hidle := HI.out.idle.move (Mv.of_pure hbA (fun _ => False)) (fun _ _ h => h)
    have HN3 := Aside0.mk (And.intro bR3 (And.intro (HI.out.bl.trans (hbA.mono hws)) (And.intro hidle (Kd.R_lower hR3 hws))))
    clear hbA bR3 hR3 hb3 hws hidle
    gi_wp2
    obtain ⟨bR3, hbl3, hid3, hR3⟩ := HN3.out
    have hm : Mv (fun k => k = w.heap.size) w3 ((w3.setCell ⟨w.heap.size, 0, none⟩ (.int .i64 0)).setCell ⟨w.heap.size, 1, none⟩ (.int .i64 0)) := ((Mv.refl (fun k => k = w.heap.size) w3).setCell (p := ⟨w.heap.size, 0, none⟩) (.inl rfl) _).setCell (p := ⟨w.heap.size, 1, none⟩) (.inl rfl) _
    have hbE := blk_put (blk_put bR3 0 (.int .i64 0) rfl) 1 (.int .i64 0) rfl
    have hleave := fun (tmps : Array Value) (h2 : tmps.getD 2 undef = v3) (h3 : tmps.getD 3 undef = .pointer (some ⟨w.heap.size, 0, none⟩)) => flow_Reach.leave (w := w) (ds := ds) (tmps := tmps) (v := v3) (l := sortI ws) (e := 0) (at_ := 0) h2 h3 (hbl3.trans (hm.below hbl3.size (fun k h => by omega))) (hid3.move hm (fun D hD e => by have h7 := hid3.2 D hD; rw [show D = w.heap.size from e, bR3] at h7; cases h7)) HI.out.lo hbE (Kd.R_set (Kd.R_set hR3 bR3 (by decide) 0 _) (blk_put bR3 0 (.int .i64 0) rfl) (by decide) 1 _)
    rw [← HFIN.out] at hleave
    exact hleave _ rfl rfl
theorem flow_Reach.calls (A0 : Option Addr) (c0 : Nat) (l0 : List (S40)) (r1 : List Int) (r2 : Int) (r3 : Int) (w : World) (hr0 : Kd.C k40 w A0 l0.length l0) (hc0 : l0.length ≤ c0) (h : flow_Reach.f l0 = some (r1, r2, r3)) :
    Calls Try.prog 11 #[.slice A0 l0.length c0] w fun e w' => ∃ v0_ : Value, e = .returned (.tuple #[v0_, .agg #[.int .i64 r2, .int .i64 r3]]) ∧ Kd.R (Kd.int .i64) 3 w' w.heap.size (fun _ => True) v0_ r1 ∧ Below w.heap.size w w' := by
  unfold flow_Reach.f at h
  obtain ⟨⟨t1, t2⟩, hC, h⟩ := Option.bind_eq_some_iff.mp h
  simp only at h
  by_cases hz : (!(t1 == 0) || (!(t2 == 0))) = true
  · rw [if_pos hz] at h
    simp only [Option.some.injEq, Prod.mk.injEq] at h
    obtain ⟨rfl, rfl, rfl⟩ := h
    exact flow_Reach.calls_bad A0 c0 l0 t1 t2 w hr0 hc0 hC hz
  rw [if_neg hz] at h
  simp only [Option.some.injEq, Prod.mk.injEq] at h
  obtain ⟨rfl, rfl, rfl⟩ := h
  have hz1 : t1 = 0 := by
    by_cases e : t1 = 0
    · exact e
    · exact absurd (by simp [e]) hz
  have hz2 : t2 = 0 := by
    by_cases e : t2 = 0
    · exact e
    · exact absurd (by simp [e]) hz
  subst hz1
  subst hz2
  exact flow_Reach.calls_ok A0 c0 l0 w hr0 hc0 hC

end Go.Proofs.Ytimflmgdnfpodaa.PAll
