-- WRITTEN BY hand.py of this session, over the kit's print: a text of this seat
import Derived.Test.YtimflmgdnfpodaaPAllx0
namespace Go.Proofs.Ytimflmgdnfpodaa.PAll
open Go.RowKit Go.Proofs.YtimflmgdnfpodaaW.PrintWords Go.Proofs.YtimflmgdnfpodaaW.PrintLast Go.Proofs.YtimflmgdnfpodaaW.PrintMore
attribute [local go_sem] max2_int min2_int max_two min_two max_three min_three max_four min_four   -- for this text's walks alone
set_option linter.unusedVariables false
set_option linter.unusedSimpArgs false

/-! ### flow_Check: function 19 -/
open Go.Proofs.YtimflmgdnfpodaaFlow in
/-- Does a place go out of the code? -/
def flow_Check.out (n : Nat) (l : List Int) : Bool := l.any fun x => decide (x < 0) || decide (x ≥ (n : Int))
open Go.Proofs.YtimflmgdnfpodaaFlow in
/-- The first place from i on that goes out of the code. -/
def flow_Check.at (l0 : List (S40)) : Nat → Nat → Option Nat
  | 0, _ => none
  | k + 1, i => if flow_Check.out l0.length (uniq (goesL (rd_T40 l0 (i : Int)).f0 (rd_T40 l0 (i : Int)).f1 (i : Int))) then some i else flow_Check.at l0 k (i + 1)
def flow_Check.v (l0 : List (S40)) : Int × Int :=
  if (l0.length : Int) > 20000 then (12, 20000) else if (l0.length : Int) = 0 then (16, 0) else match flow_Check.at l0 l0.length 0 with
    | some i => (16, i)
    | none => (0, 0)
def flow_Check.f (l0 : List (S40)) : Option (Int × Int) := some (flow_Check.v l0)
theorem flow_Check.out_pre {n : Nat} {a b : List Int} (h : a <+: b) (ho : flow_Check.out n a = true) : flow_Check.out n b = true := by
  obtain ⟨r, rfl⟩ := h
  unfold flow_Check.out at ho ⊢
  rw [List.any_append, ho]; rfl
theorem flow_Check.out_snoc (n : Nat) (a : List Int) (x : Int) (h : flow_Check.out n a = false) : flow_Check.out n (a ++ [x]) = (decide (x < 0) || decide (x ≥ (n : Int))) := by
  unfold flow_Check.out at h ⊢
  rw [List.any_append, h]; simp
open Go.Proofs.YtimflmgdnfpodaaFlow in
theorem flow_Check.at_step (l0 : List (S40)) (i : Nat) (hi : i < l0.length) : flow_Check.at l0 (l0.length - i) i = if flow_Check.out l0.length (uniq (goesL (rd_T40 l0 (i : Int)).f0 (rd_T40 l0 (i : Int)).f1 (i : Int))) then some i else flow_Check.at l0 (l0.length - (i + 1)) (i + 1) := by
  rw [show l0.length - i = (l0.length - (i + 1)) + 1 by omega]; rfl
open Go.Proofs.YtimflmgdnfpodaaFlow Go.Proofs.YtimflmgdnfpodaaRF in
/-- Between two rounds of the outer loop. -/
structure flow_Check.I (A0 : Option Addr) (c0 : Nat) (l0 : List (S40)) (w : World) (i : Nat) (ds : List Nat) (wr : World) : Prop where
  le : i ≤ l0.length
  ck : flow_Check.at l0 (l0.length - i) i = flow_Check.at l0 l0.length 0
  b0 : wr.heap[w.heap.size]? = some (.cells #[.slice A0 l0.length c0] 22 (0, 0))
  b1 : wr.heap[w.heap.size + 1]? = some (.cells #[.int .i64 0, .int .i64 0] 29 (0, 0))
  bl : Below w.heap.size w wr
  idle : Idle ds wr
  lo : ∀ D ∈ ds, w.heap.size + 2 ≤ D
open Go.Proofs.YtimflmgdnfpodaaFlow Go.Proofs.YtimflmgdnfpodaaRF in
/-- Between two rounds of the inner loop, which began at a heap of size s. -/
structure flow_Check.J (A0 : Option Addr) (c0 : Nat) (l0 : List (S40)) (w : World) (i : Nat) (ds : List Nat) (s : Nat) (pre : List Int) (O : Nat → Prop) (W : World) : Prop where
  no : flow_Check.out l0.length pre = false
  b0 : Mine w.heap.size (.cells #[.slice A0 l0.length c0] 22 (0, 0)) O W
  b1 : Mine (w.heap.size + 1) (.cells #[.int .i64 0, .int .i64 0] 29 (0, 0)) O W
  b2 : Mine s (.cells #[.int .i64 i] 3 (0, 0)) O W
  bl : Below w.heap.size w W
  idle : Idle ds W
  lo : ∀ k, O k → w.heap.size + 2 ≤ k ∧ k ∉ ds
open Go.Proofs.YtimflmgdnfpodaaFlow Go.Proofs.YtimflmgdnfpodaaRF in
structure flow_Check.X (l0 : List (S40)) (w : World) (i : Nat) (ds : List Nat) (pre : List Int) (O : Nat → Prop) (W : World) : Prop where
  no : flow_Check.out l0.length pre = true ∧ pre <+: uniq (goesL (rd_T40 l0 (i : Int)).f0 (rd_T40 l0 (i : Int)).f1 (i : Int))
  b1 : Mine (w.heap.size + 1) (.cells #[.int .i64 16, .int .i64 i] 29 (0, 0)) O W
  bl : Below w.heap.size w W
  idle : Idle ds W
  lo : ∀ k, O k → w.heap.size + 2 ≤ k ∧ k ∉ ds
open Go.Proofs.YtimflmgdnfpodaaFlow Go.Proofs.YtimflmgdnfpodaaRF in
theorem flow_Check.lo_step {ds : List Nat} {n : Nat} {O O' : Nat → Prop} {w W : World} (hb : Below w.heap.size w W) (hn : n ≤ W.heap.size) (hi : Idle ds W) (h : ∀ k, O k → n ≤ k ∧ k ∉ ds) (h2 : ∀ k, O' k → O k ∨ W.heap.size ≤ k) : ∀ k, O' k → n ≤ k ∧ k ∉ ds := fun k hk => by
  rcases h2 k hk with e | e
  · exact h k e
  · exact ⟨by omega, fun hd => by have := lt_of_at (hi.2 k hd); omega⟩
open Go.Proofs.YtimflmgdnfpodaaFlow Go.Proofs.YtimflmgdnfpodaaRF in
theorem flow_Check.J_stable (A0 : Option Addr) (c0 : Nat) (l0 : List (S40)) (w : World) (i : Nat) (ds : List Nat) (s : Nat) : Stable (flow_Check.J A0 c0 l0 w i ds s) := fun pre O O' W W' h hm h1 h2 => by
  have hst : ∀ {b : Nat} {o : Obj}, Mine b o O W → Mine b o O' W' := fun hb => Mine.stable (β := Unit) (fun _ => _) (fun _ => _) () O O' W W' hb hm h1 h2
  exact ⟨h.no, hst h.b0, hst h.b1, hst h.b2, h.bl.trans (hm.below h.bl.size (fun k hk => by have := (h.lo k hk).1; omega)), h.idle.move hm (fun D hD hO => (h.lo D hO).2 hD), flow_Check.lo_step h.bl (by have := lt_of_at h.b1.1; omega) h.idle h.lo h2⟩
open Go.Proofs.YtimflmgdnfpodaaFlow Go.Proofs.YtimflmgdnfpodaaRF in
theorem flow_Check.X_stable (l0 : List (S40)) (w : World) (i : Nat) (ds : List Nat) : Stable (flow_Check.X l0 w i ds) := fun pre O O' W W' h hm h1 h2 => by
  have hst : ∀ {b : Nat} {o : Obj}, Mine b o O W → Mine b o O' W' := fun hb => Mine.stable (β := Unit) (fun _ => _) (fun _ => _) () O O' W W' hb hm h1 h2
  exact ⟨h.no, hst h.b1, h.bl.trans (hm.below h.bl.size (fun k hk => by have := (h.lo k hk).1; omega)), h.idle.move hm (fun D hD hO => (h.lo D hO).2 hD), flow_Check.lo_step h.bl (by have := lt_of_at h.b1.1; omega) h.idle h.lo h2⟩
open Go.Proofs.YtimflmgdnfpodaaFlow Go.Proofs.YtimflmgdnfpodaaRF in
theorem flow_Check.leave {w W : World} {ds : List Nat} {tmps : Array Value} {e at_ : Int} {Q : Ending → World → Prop} (hp : tmps.getD 2 undef = .pointer (some ⟨w.heap.size + 1, 0, none⟩)) (hb : Below w.heap.size w W) (hi : Idle ds W) (hlo : ∀ D ∈ ds, w.heap.size + 2 ≤ D)
    (h1 : W.heap[w.heap.size + 1]? = some (.cells #[.int .i64 e, .int .i64 at_] 29 (0, 0))) (h : ∀ w', Below w.heap.size w w' → Q (.returned (.agg #[.int .i64 e, .int .i64 at_])) w') :
    LeavesInM Fence.wide 6 Try.prog Try.f19 tmps Q (coll ds) .returning W := by
  have hm : Mv (fun D => D ∈ ds) W (takeAll ds W) := takeAll_mv (fun D hD => hD)
  refine leaves_all ds W hi ?_
  have h1' := hm.at h1 (fun e => by have := hlo _ e; omega)
  exact ⟨_, results_c1 rfl _ _ _ _ hp (run_loadVar_row _ _ _ _ _ _ _ h1' Try.underlying29 rfl (by kernel_rfl)), h _ (hb.trans (hm.below hb.size (fun D hD => by have := hlo D hD; omega)))⟩
attribute [local go_sem] Oper.semAt_some
open Go.Proofs.YtimflmgdnfpodaaFlow Go.Proofs.YtimflmgdnfpodaaRF Go.Proofs.YtimflmgdnfpodaaRG in
set_option maxHeartbeats 2000000 in
set_option maxRecDepth 100000 in
theorem flow_Check.calls (A0 : Option Addr) (c0 : Nat) (l0 : List (S40)) (r1 : Int) (r2 : Int) (w : World) (hr0 : Kd.C k40 w A0 l0.length l0) (hc0 : l0.length ≤ c0) (h : flow_Check.f l0 = some (r1, r2)) :
    Calls Try.prog 19 #[.slice A0 l0.length c0] w fun e w' => e = .returned (.agg #[.int .i64 r1, .int .i64 r2]) ∧ Below w.heap.size w w' := by
  have hu := Try.underlying40
  have huF := Try.underlying29
  unfold flow_Check.f flow_Check.v at h
  refine (callsIn_wide (n := 6)).1 ?_
  refine callsIn_of_wp_marks Try.func19 rfl trivial ?_ rfl
  simp only [Try.ntmps19, List.size_toArray, List.length_cons, List.length_nil, Nat.reduceAdd, Nat.reduceSub, Array.replicate_succ, Array.replicate_zero, List.push_toArray, List.append_toArray, List.nil_append, List.cons_append]
  have hb1 : ∀ o, (w.alloc (.cells #[.slice A0 l0.length c0] 22)).alloc o |>.heap[w.heap.size + 1]? = some o := fun o => at_new _ _ (by simp)
  have hbb : ∀ o, Below w.heap.size w ((w.alloc (.cells #[.slice A0 l0.length c0] 22)).alloc o) := fun o => ((Below.refl _ _).alloc (Nat.le_refl _) _).alloc (by simp) _
  by_cases h1 : (l0.length : Int) > 20000
  · rw [if_pos h1] at h
    simp only [Option.some.injEq, Prod.mk.injEq] at h
    obtain ⟨rfl, rfl⟩ := h
    have d1 : decide ((l0.length : Int) > 20000) = true := decide_eq_true h1
    clear hr0 h1
    gi_wp2
    exact flow_Check.leave (ds := []) rfl (hbb _) (Idle.nil _) (fun _ h => by cases h) (hb1 _) (fun _ h => ⟨rfl, h⟩)
  rw [if_neg h1] at h
  have d1 : decide ((l0.length : Int) > 20000) = false := decide_eq_false h1
  by_cases h2 : (l0.length : Int) = 0
  · rw [if_pos h2] at h
    simp only [Option.some.injEq, Prod.mk.injEq] at h
    obtain ⟨rfl, rfl⟩ := h
    have d2 : ((l0.length : Int) == 0) = true := beq_iff_eq.2 h2
    clear hr0 h1 h2
    gi_wp2
    exact flow_Check.leave (ds := []) rfl (hbb _) (Idle.nil _) (fun _ h => by cases h) (hb1 _) (fun _ h => ⟨rfl, h⟩)
  rw [if_neg h2] at h
  have d2 : ((l0.length : Int) == 0) = false := beq_eq_false_iff_ne.2 h2
  have hlen : l0.length ≤ 20000 := by omega
  have HI0 : Aside0 (flow_Check.I A0 c0 l0 w 0 [] ((w.alloc (.cells #[.slice A0 l0.length c0] 22)).alloc (.cells #[.int .i64 0, .int .i64 0] 29))) := Aside0.mk ⟨Nat.zero_le _, rfl, at_alloc (at_new _ _ rfl) _, hb1 _, hbb _, Idle.nil _, fun _ h => by cases h⟩
  have HR0 := Aside0.mk hr0
  have HH := Aside0.mk h
  clear hr0 h1 h2 hb1 hbb h
  gi_wp2
  refine wpIn_loop (fun a wr => ∃ (i : Nat) (ds : List Nat) (u3 u4 u19 u20 u21 u22 u23 u24 u25 u37 : Value), Aside0 (flow_Check.I A0 c0 l0 w i ds wr) ∧
    a = { tmps := #[.slice A0 l0.length c0, .pointer (some ⟨w.heap.size, 0, none⟩), .pointer (some ⟨w.heap.size + 1, 0, none⟩), u3, u4, undef, .bool false, .slice A0 l0.length c0, .int .i64 (l0.length : Int), .bool false, undef, .bool false, .slice A0 l0.length c0, .int .i64 (l0.length : Int), .bool false, undef, .slice A0 l0.length c0, .int .i64 (l0.length : Int), .int .i64 (i : Int), u19, u20, u21, u22, u23, u24, u25, undef, undef, undef, undef, undef, undef, undef, undef, undef, undef, undef, u37, undef], defers := coll ds })
    (fun a _ => l0.length - (intOf (a.tmps.getD 18 undef)).toNat) ⟨0, [], _, _, _, _, _, _, _, _, _, _, HI0, rfl⟩ ?_
  clear HI0
  rintro a wr ⟨i, ds, u3, u4, u19, u20, u21, u22, u23, u24, u25, u37, HI, rfl⟩
  by_cases hlt : i < l0.length
  · have hst := flow_Check.at_step l0 i hlt
    rw [HI.out.ck] at hst
    obtain ⟨ad, hA, x0, x1, x2, x3⟩ := at_T40 (Kd.C_below HR0.out HI.out.bl) (i : Int) (by omega) (by omega)
    rw [Int.toNat_natCast] at x0 x1 x2 x3
    subst hA
    obtain ⟨x, hx⟩ : ∃ x, x = rd_T40 l0 (i : Int) := ⟨_, rfl⟩
    rw [← hx] at x0 x1 x2 x3 hst
    have hB0 := HI.out.b0
    have hB1 := HI.out.b1
    obtain ⟨W2, hW2⟩ : ∃ W2, W2 = (wr.alloc (.cells #[.int .i64 (i : Int)] 3)).alloc (.cells #[.int .i64 x.f0, .int .i64 x.f1, .int .i64 x.f2, .int .i64 x.f3] 40) := ⟨_, rfl⟩
    have hs2 : W2.heap.size = wr.heap.size + 2 := by rw [hW2]; simp
    have hb2 : Below wr.heap.size wr W2 := by rw [hW2]; exact ((Below.refl _ _).alloc (Nat.le_refl _) _).alloc (by simp) _
    have hB2 : W2.heap[wr.heap.size]? = some (.cells #[.int .i64 (i : Int)] 3 (0, 0)) := by rw [hW2]; exact at_alloc (at_new _ _ rfl) _
    have HG := Aside0.mk (goes_calls x.f0 x.f1 x.f2 x.f3 (i : Int) W2)
    obtain ⟨L, hL⟩ : ∃ L, L = goesL x.f0 x.f1 (i : Int) := ⟨_, rfl⟩
    rw [← hL] at HG hst
    have HX := Aside0.mk hx
    have HL := Aside0.mk hL
    have HST := Aside0.mk hst
    have HW2 := Aside0.mk (And.intro hs2 (And.intro hb2 hB2))
    have HLT := Aside0.mk hlt
    clear hx hL hst hs2 hb2 hB2
    have c0_ := cell_at hB0 0
    simp only [List.getElem?_toArray, List.getElem?_cons_zero] at c0_
    clear hB0 hB1
    gi_wp2
    rw [← hW2]
    clear hW2
    refine ⟨trivial, ((callsIn_wide).2 HG.out).mono ?_⟩
    rintro e w1 ⟨⟨g, A, c, rfl, hg0, hg, hR⟩, hb⟩
    clear HG x0 x1 x2 x3
    obtain ⟨hs2, hb2, hB2⟩ := HW2.out
    have HGG := Aside0.mk (And.intro hg0 (And.intro hg (And.intro hR hb)))
    clear hg0 hg hR hb hs2 hb2 hB2
    gi_wp2
    obtain ⟨hg0, hg, hR, hb⟩ := HGG.out
    obtain ⟨hs2, hb2, hB2⟩ := HW2.out
    have hb1 : Below wr.heap.size wr w1 := hb2.trans (hb.mono (by omega))
    have hws := HI.out.bl.size
    have hw1s := hb1.size
    have hbs := hb.size
    have hidlt : ∀ D ∈ ds, D < wr.heap.size := fun D hD => lt_of_at (HI.out.idle.2 D hD)
    have hcc : L.length ≤ c := by
      obtain ⟨A', c', e, hh, _⟩ := Kd.R_reads hR
      cases e; exact hh
    have hll : L.length < 4398046511104 := by
      rw [HL.out]
      unfold goesL
      split
      · simp
      · split
        · simp
        · split <;> simp
    have hOO : ∀ k, (k = g ∨ (Value.slice A L.length c).ownBlock = some k) → wr.heap.size + 2 ≤ k ∧ k < w1.heap.size := by
      rintro k (rfl | hk)
      · exact ⟨by omega, lt_of_at hg⟩
      · have := (Kd.R_bound hR).1 k hk
        exact ⟨by omega, this.2.2.1⟩
    refine rf_loop (n := 6) rfl (by omega) 38 #[.pointer (some ⟨g, 0, none⟩)] rfl trivial (enters_ Try.func38 (by kernel_rfl) rfl)
      (fun x : Int => #[.int .i64 x]) (fun _ => rfl) (fun k => k = g ∨ (Value.slice A L.length c).ownBlock = some k) (fun _ => False) (fun k hk => (hOO k hk).2) (fun k h => h.elim)
      (each1_iter 5 (by omega) A c L g W2.heap.size w1 hll hcc hg hR)
      (flow_Check.J (some ad) c0 l0 w i ds wr.heap.size) (fun c pre O W => c = .ret ∧ flow_Check.X l0 w i ds pre O W) (flow_Check.J_stable (some ad) c0 l0 w i ds wr.heap.size) (fun c => (Stable.pure (fun _ => c = .ret)).and (flow_Check.X_stable l0 w i ds)) ?_
      (fun y => { tmps := #[.slice (some ad) l0.length c0, .pointer (some ⟨w.heap.size, 0, none⟩), .pointer (some ⟨w.heap.size + 1, 0, none⟩), .pointer (some ⟨wr.heap.size, 0, none⟩), .pointer (some ⟨wr.heap.size + 1, 0, none⟩), .int .i64 y, .bool false, .slice (some ad) l0.length c0, .int .i64 (l0.length : Int), .bool false, undef, .bool false, .slice (some ad) l0.length c0, .int .i64 (l0.length : Int), .bool false, undef, .slice (some ad) l0.length c0, .int .i64 (l0.length : Int), .int .i64 (i : Int),
        .bool true, .int .i64 (i : Int), .pointer (some (ad.add (i * 4))), .agg #[.int .i64 x.f0, .int .i64 x.f1, .int .i64 x.f2, .int .i64 x.f3], .agg #[.int .i64 x.f0, .int .i64 x.f1, .int .i64 x.f2, .int .i64 x.f3], .int .i64 (i : Int), .func (.func 38) #[] #[.pointer (some ⟨g, 0, none⟩)], .int .i64 y, undef, undef, undef, undef, undef, undef, undef, undef, undef, undef, u37, undef], defers := [] }) ?assign ?body ?done ?stop
    · intro O hO W hW
      have hlo : ∀ k, O k → wr.heap.size + 2 ≤ k := fun k hk => by
        rcases hO k hk with h | h
        · exact (hOO k h).1
        · omega
      have go : ∀ {b : Nat} {o : Obj}, w1.heap[b]? = some o → b < wr.heap.size + 2 → Mine b o O W := fun h hlt => ⟨hW.at h (fun h => h), fun e => by have := hlo _ e; omega⟩
      have up : ∀ {b : Nat} {o : Obj}, wr.heap[b]? = some o → w1.heap[b]? = some o := fun h => (hb1.block _ (lt_of_at h)).trans h
      have hl0 := lt_of_at HI.out.b0
      have hl1 := lt_of_at HI.out.b1
      refine ⟨rfl, go (up HI.out.b0) (by omega), go (up HI.out.b1) (by omega), go ((hb.block _ (lt_of_at hB2)).trans hB2) (by omega), (HI.out.bl.trans (hb1.mono hws)).trans (hW.below (by omega) (fun _ h => h.elim)), ?_, fun k hk => ⟨by have := hlo k hk; omega, fun hd => by have := hlo k hk; have := hidlt k hd; omega⟩⟩
      exact (HI.out.idle.move (Mv.of_pure hb1 (fun _ => False)) (fun _ _ h => h)).move hW (fun _ _ h => h)
    case assign =>
      intro l x W K hK
      gi_wp2
      exact hK
    case body =>
      intro l pre y O W hI hpre hOl hOlp hrec hOO2 hsz2
      have hsn := flow_Check.out_snoc l0.length pre y hI.no
      have cl := cell_at hI.b0.1 0
      have ci := cell_at hI.b2.1 0
      have c1 := cell_at hI.b1.1 0
      have c2 := cell_at hI.b1.1 1
      have f1 := free_at hI.b1.1 0
      have f2 := free_at hI.b1.1 1
      simp only [List.getElem?_toArray, List.getElem?_cons_zero, List.getElem?_cons_succ] at cl ci c1 c2
      have HJ := Aside0.mk hI
      have HPRE := Aside0.mk hpre
      clear hI hpre hOl hOlp hrec hOO2 hsz2 HH HR0 HST HW2 HLT HGG hg0 hg hR hb hs2 hb2 hB2 hb1 hws hw1s hbs hidlt hcc hll hOO
      by_cases hout : (decide (y < 0) || decide (y ≥ (l0.length : Int))) = true
      · rw [hout] at hsn
        have HSN := Aside0.mk hsn
        clear hsn
        have fin : Mv (fun k => ¬ (O k ∨ False)) W ((W.setCell ⟨w.heap.size + 1, 0, none⟩ (.int .i64 16)).setCell ⟨w.heap.size + 1, 1, none⟩ (.int .i64 i)) ∧ flow_Check.X l0 w i ds (pre ++ [y]) O ((W.setCell ⟨w.heap.size + 1, 0, none⟩ (.int .i64 16)).setCell ⟨w.heap.size + 1, 1, none⟩ (.int .i64 i)) := by
          have hm : Mv (fun k => k = w.heap.size + 1) W ((W.setCell ⟨w.heap.size + 1, 0, none⟩ (.int .i64 16)).setCell ⟨w.heap.size + 1, 1, none⟩ (.int .i64 i)) := ((Mv.refl (fun k => k = w.heap.size + 1) W).setCell (p := ⟨w.heap.size + 1, 0, none⟩) (.inl rfl) _).setCell (p := ⟨w.heap.size + 1, 1, none⟩) (.inl rfl) _
          refine ⟨hm.mono (fun k _ h => by rw [h]; exact fun e => e.elim HJ.out.b1.2 id), ⟨⟨HSN.out, ?_⟩, ⟨blk_put (blk_put HJ.out.b1.1 0 _ rfl) 1 _ rfl, HJ.out.b1.2⟩, HJ.out.bl.trans (hm.below HJ.out.bl.size (fun k h => by omega)), HJ.out.idle.move hm (fun D hD e => ?_), HJ.out.lo⟩⟩
          · have := HPRE.out
            rw [HL.out, HX.out] at this
            exact this
          · have h1 := HJ.out.idle.2 D hD
            rw [show D = w.heap.size + 1 from e, HJ.out.b1.1] at h1
            cases h1
        have FIN := Aside0.mk fin
        clear fin HX HL
        by_cases hy : y < 0
        · have d1 : decide (y < 0) = true := decide_eq_true hy
          clear hout
          gi_wp2
          exact ⟨FIN.out.1, rfl, FIN.out.2⟩
        · have d1 : decide (y < 0) = false := decide_eq_false hy
          have d2 : decide (y ≥ (l0.length : Int)) = true := by simpa [d1] using hout
          clear hout hy
          gi_wp2
          exact ⟨FIN.out.1, rfl, FIN.out.2⟩
      · have hout2 : (decide (y < 0) || decide (y ≥ (l0.length : Int))) = false := by simpa using hout
        rw [hout2] at hsn
        obtain ⟨d1, d2⟩ := Bool.or_eq_false_iff.1 hout2
        have FIN := Aside0.mk (show flow_Check.J (some ad) c0 l0 w i ds wr.heap.size (pre ++ [y]) O W from ⟨hsn, HJ.out.b0, HJ.out.b1, HJ.out.b2, HJ.out.bl, HJ.out.idle, HJ.out.lo⟩)
        clear hout hout2 hsn HJ HPRE HX HL
        gi_wp2
        exact ⟨Mv.refl _ _, FIN.out⟩
    case done =>
      intro D xs O W hD hOD hOl hS hI hK
      subst hS
      have HST2 := HST.out
      rw [hI.no] at HST2
      simp only [Bool.false_eq_true, if_false] at HST2
      have hnd : D ∉ ds := (hI.lo D hOD).2
      have NEW := Aside0.mk (show flow_Check.I (some ad) c0 l0 w (i + 1) (D :: ds) W from ⟨hlt, HST2.symm, hI.b0.1, hI.b1.1, hI.bl, hI.idle.cons D hK hnd, fun E hE => by
        rcases List.mem_cons.1 hE with rfl | hE
        · exact (hI.lo _ hOD).1
        · exact HI.out.lo _ hE⟩)
      clear hI hK HST2 hnd hOl hOD HH HR0 HX HL HST HW2 HGG hg0 hg hR hb hs2 hb2 hB2 hb1 hws hw1s hbs hidlt hcc hll hOO hD HI
      gi_wp2
      refine ⟨⟨i + 1, D :: ds, _, _, _, _, _, _, _, _, _, _, NEW, rfl⟩, ?_⟩
      show l0.length - ((i : Int) + 1).toNat < l0.length - (i : Int).toNat
      omega
    case stop =>
      rintro D c pre O W hD hOD hOl ⟨rfl, hX⟩ hK
      have hnd : D ∉ ds := (hX.lo D hOD).2
      have HF := HH.out
      have hst := HST.out
      rw [if_pos (flow_Check.out_pre (by rw [HL.out, HX.out]; exact hX.no.2) hX.no.1)] at hst
      rw [hst] at HF
      simp only [Option.some.injEq, Prod.mk.injEq] at HF
      obtain ⟨rfl, rfl⟩ := HF
      have HXX := Aside0.mk hX
      have HID := Aside0.mk (hX.idle.cons D hK hnd)
      have HLO := Aside0.mk (show ∀ E ∈ D :: ds, w.heap.size + 2 ≤ E from fun E hE => by
        rcases List.mem_cons.1 hE with rfl | hE
        · exact (hX.lo _ hOD).1
        · exact HI.out.lo _ hE)
      clear hX hK hnd hOl hOD HH HR0 HX HL HST HW2 HGG hg0 hg hR hb hs2 hb2 hB2 hb1 hws hw1s hbs hidlt hcc hll hOO hD HI hst
      gi_wp2
      exact flow_Check.leave (ds := D :: ds) rfl HXX.out.bl HID.out HLO.out HXX.out.b1.1 (fun _ h => ⟨rfl, h⟩)
  · clear HR0
    have hle := HI.out.le
    have hck := HI.out.ck
    rw [show l0.length - i = 0 by omega] at hck
    have hB1 := HI.out.b1
    have HB := Aside0.mk (And.intro hB1 (And.intro HI.out.bl (And.intro HI.out.idle HI.out.lo)))
    have hh := HH.out
    rw [← hck] at hh
    simp only [flow_Check.at, Option.some.injEq, Prod.mk.injEq] at hh
    obtain ⟨rfl, rfl⟩ := hh
    have c1 := cell_at hB1 0
    have c2 := cell_at hB1 1
    have f1 := free_at hB1 0
    have f2 := free_at hB1 1
    simp only [List.getElem?_toArray, List.getElem?_cons_zero, List.getElem?_cons_succ] at c1 c2
    clear hck hle HH HI hB1 d1 d2 hlen hc0
    gi_wp2
    obtain ⟨hB1, hbl, hid, hlo⟩ := HB.out
    have hm : Mv (fun k => k = w.heap.size + 1) wr ((wr.setCell ⟨w.heap.size + 1, 0, none⟩ (.int .i64 0)).setCell ⟨w.heap.size + 1, 1, none⟩ (.int .i64 0)) := ((Mv.refl (fun k => k = w.heap.size + 1) wr).setCell (p := ⟨w.heap.size + 1, 0, none⟩) (.inl rfl) _).setCell (p := ⟨w.heap.size + 1, 1, none⟩) (.inl rfl) _
    exact flow_Check.leave rfl (hbl.trans (hm.below hbl.size (fun k h => by omega))) (hid.move hm (fun D hD e => by have := hlo D hD; omega)) hlo (blk_put (blk_put hB1 0 _ rfl) 1 _ rfl) (fun _ h => ⟨rfl, h⟩)

end Go.Proofs.Ytimflmgdnfpodaa.PAll
