/- chain.marks. -/
import Derived.Test.YtokfalcmkmelpaaHChain3
namespace Go.Proofs.YtokfalcmkmelpaaHChain
set_option linter.unusedSimpArgs false
set_option linter.unusedVariables false
open Go.RowKit Go.Proofs.YtokfalcmkmelpaaW.PrintWords Go.Proofs.YtokfalcmkmelpaaW.PrintLast Go.Proofs.YtokfalcmkmelpaaRF Go.Proofs.YtokfalcmkmelpaaRG Go.Proofs.YtokfalcmkmelpaaMp
attribute [local go_sem] Oper.semAt_some

/-- The words of the first loop in 'marks'. -/
structure MI (ls : Nat → Lay) (W0 : World) (vl vk : Value) (back : Bool) (pre : List Int) (O : Nat → Prop) (W : World) : Prop where
  fr : Mine (W0.heap.size + 1) (.cells #[vk] 55 (0, 0)) O W
  bl : Mine W0.heap.size (.cells #[vl] 22 (0, 0)) O W
  ba : Mine (W0.heap.size + 2) (.cells #[.bool back] 4 (0, 0)) O W
  mp : Mine (W0.heap.size + 3) (MapObj kenc venc (fsts ls pre) (fsts ls pre).length) O W
  sb : Mine (W0.heap.size + 4) (.cells #[.map (some (W0.heap.size + 3))] 62 (0, 0)) O W
  mv : Mv (fun _ => False) W0 W
  own : ∀ k, O k → W0.heap.size ≤ k
theorem MI.stable (ls : Nat → Lay) (W0 : World) (vl vk : Value) (back : Bool) : Stable (MI ls W0 vl vk back) := fun s O O' W W' h hm h1 h2 => by
  have hst : ∀ {b : Nat} {o : Obj}, Mine b o O W → Mine b o O' W' := fun hb => Mine.stable (β := Unit) (fun _ => _) (fun _ => _) () O O' W W' hb hm h1 h2
  refine ⟨hst h.fr, hst h.bl, hst h.ba, hst h.mp, hst h.sb, ?_, fun k hk => (h2 k hk).elim (h.own k) (fun x => by have := h.mv.size; omega)⟩
  exact ⟨hm.os.trans h.mv.os, hm.tape.trans h.mv.tape, hm.output.trans h.mv.output, Nat.le_trans h.mv.size hm.size, fun k hk hno => (hm.block k (Nat.lt_of_lt_of_le hk h.mv.size) (fun e => by have := h.own k e; omega)).trans (h.mv.block k hk hno)⟩
theorem MI.of {ls : Nat → Lay} {W0 : World} {vl vk : Value} {back : Bool} {pre : List Int} {O : Nat → Prop} {W : World} {L : Ents} (h : fsts ls pre = L)
    (fr : Mine (W0.heap.size + 1) (.cells #[vk] 55 (0, 0)) O W) (bl : Mine W0.heap.size (.cells #[vl] 22 (0, 0)) O W) (ba : Mine (W0.heap.size + 2) (.cells #[.bool back] 4 (0, 0)) O W)
    (mp : Mine (W0.heap.size + 3) (MapObj kenc venc L L.length) O W) (sb : Mine (W0.heap.size + 4) (.cells #[.map (some (W0.heap.size + 3))] 62 (0, 0)) O W)
    (mv : Mv (fun _ => False) W0 W) (own : ∀ k, O k → W0.heap.size ≤ k) : MI ls W0 vl vk back pre O W := by
  subst h; exact ⟨fr, bl, ba, mp, sb, mv, own⟩

/-- Which entries of a range over a map have come up. -/
def seenAt (R : Nat) (W : World) : Array Nat := match W.heap[R]? with | some (.mapIter _ _ s _) => s | _ => #[]

set_option maxHeartbeats 2000000 in
theorem marks_calls (n₀ N c : Nat) (hN : N ≤ 4611686018427387904) (A : Option Addr) (ls : Nat → Lay) (back : Bool) (ms : List Bool) (hms : ms.length = N) (W0 : World) (Bm cm : Nat) (hl : RdL n₀ W0 A N ls) (hn₀ : n₀ ≤ Bm)
    (hBm : W0.heap[Bm]? = some (.cells (ms.map Value.bool).toArray 58 (0, 0))) :
    Calls Try.prog 38 #[.slice A N c, .slice (some ⟨Bm, 0, none⟩) N cm, .bool back] W0 fun e W' =>
      e = .returned (.tuple #[]) ∧ Mv (fun k => k = Bm) W0 W' ∧ W'.heap[Bm]? = some (.cells ((marked ls N back ms).map Value.bool).toArray 58 (0, 0)) := by
  refine (callsIn_wide (n := 5)).1 ?_
  refine callsIn_of_wp_marks Try.func38 rfl trivial ?_ rfl
  simp only [Try.ntmps38, List.size_toArray, List.length_cons, List.length_nil, Nat.reduceAdd, Nat.reduceSub, Array.replicate_succ, Array.replicate_zero, List.push_toArray, List.append_toArray, List.nil_append, List.cons_append]
  have hmm := @run_makeMap Try.prog
  have hlt4 := lt_of_at hBm
  gi_wp2_with (refine ⟨trivial, ?_⟩; gi_at_call 42; refine ((callsIn_wide (n := 4)).2 (walk_calls _ _ _)).mono ?_; rintro e w' ⟨rfl, rfl⟩)
  try simp only [World.size_alloc]
  obtain ⟨W1, hW1⟩ : ∃ W1 : World, W1 = (((((((W0.alloc (.cells #[.slice A N c] 22)).alloc (.cells #[.slice (some ⟨Bm, 0, none⟩) N cm] 55)).alloc (.cells #[.bool back] 4)).alloc (.map #[] 0)).alloc (.cells #[.map (some (W0.heap.size + 1 + 1 + 1))] 62)).alloc (.cells #[.int .i64 (N : Int)] 3)).alloc (.cells #[.bool back] 4)) := ⟨_, rfl⟩
  rw [← hW1]
  have hsz : W1.heap.size = W0.heap.size + 7 := by rw [hW1]; simp
  have hmv : Mv (fun _ => False) W0 W1 := by rw [hW1]; exact (((((((Mv.refl _ _).alloc _).alloc _).alloc _).alloc _).alloc _).alloc _).alloc _
  have b0 : W1.heap[W0.heap.size]? = some (.cells #[.slice A N c] 22 (0, 0)) := by rw [hW1]; exact at_alloc (at_alloc (at_alloc (at_alloc (at_alloc (at_alloc (at_new _ _ rfl) _) _) _) _) _) _
  have b1 : W1.heap[W0.heap.size + 1]? = some (.cells #[.slice (some ⟨Bm, 0, none⟩) N cm] 55 (0, 0)) := by rw [hW1]; exact at_alloc (at_alloc (at_alloc (at_alloc (at_alloc (at_new _ _ (by simp)) _) _) _) _) _
  have b2 : W1.heap[W0.heap.size + 2]? = some (.cells #[.bool back] 4 (0, 0)) := by rw [hW1]; exact at_alloc (at_alloc (at_alloc (at_alloc (at_new _ _ (by simp)) _) _) _) _
  have b3 : W1.heap[W0.heap.size + 3]? = some (.map #[] 0) := by rw [hW1]; exact at_alloc (at_alloc (at_alloc (at_new _ _ (by simp)) _) _) _
  have b4 : W1.heap[W0.heap.size + 4]? = some (.cells #[.map (some (W0.heap.size + 3))] 62 (0, 0)) := by rw [hW1]; exact at_alloc (at_alloc (at_new _ _ (by simp)) _) _
  have b5 : W1.heap[W0.heap.size + 5]? = some (.cells #[.int .i64 (N : Int)] 3 (0, 0)) := by rw [hW1]; exact at_alloc (at_new _ _ (by simp)) _
  have b6 : W1.heap[W0.heap.size + 6]? = some (.cells #[.bool back] 4 (0, 0)) := by rw [hW1]; exact at_new _ _ (by simp)
  clear hW1
  refine rf_loop (n := 5) rfl (by omega) 48 #[.pointer (some ⟨W0.heap.size + 5, 0, none⟩), .pointer (some ⟨W0.heap.size + 6, 0, none⟩)] rfl trivial (enters_ Try.func48 (by kernel_rfl) rfl)
    (fun i : Int => #[.int .i64 i]) (fun _ => rfl) (fun k => k = W0.heap.size + 5 ∨ k = W0.heap.size + 6) (fun _ => False) (fun k hk => by rcases hk with rfl | rfl <;> omega) (fun _ h => h.elim)
    (walk1_iter 4 (by omega) N hN back _ _ W1 b5 b6) (MI ls W0 (.slice A N c) (.slice (some ⟨Bm, 0, none⟩) N cm) back) (fun _ _ _ _ => False) (MI.stable ls W0 _ _ back) (fun _ _ _ _ _ _ h _ _ _ => h.elim) ?_
    (fun x => { tmps := #[.slice A N c, .slice (some ⟨Bm, 0, none⟩) N cm, .bool back, .pointer (some ⟨W0.heap.size, 0, none⟩), .pointer (some ⟨W0.heap.size + 1, 0, none⟩), .pointer (some ⟨W0.heap.size + 1 + 1, 0, none⟩), .pointer (some ⟨W0.heap.size + 1 + 1 + 1 + 1, 0, none⟩), .int .i64 x, undef, undef, undef, undef, undef, .map (some (W0.heap.size + 1 + 1 + 1)), .slice A N c, .int .i64 (N : Int), .bool back, .func (.func 48) #[] #[.pointer (some ⟨W0.heap.size + 5, 0, none⟩), .pointer (some ⟨W0.heap.size + 6, 0, none⟩)], .int .i64 x,
      undef, undef, undef, undef, undef, undef, undef, undef, undef, undef, undef, undef, undef, undef, undef, undef, undef, undef, undef, undef, undef, undef, undef, undef, undef, undef, undef, undef, undef, undef, undef], defers := [] }) ?assign ?body ?done (fun _ _ _ _ _ _ _ _ h _ => h.elim)
  · intro O hO W hW
    have hno : ∀ k, k < W0.heap.size + 5 → ¬ O k := fun k hk e => by rcases hO k e with (h | h) | h <;> omega
    have go : ∀ {b : Nat} {o : Obj}, W1.heap[b]? = some o → b < W0.heap.size + 5 → Mine b o O W := fun h hlt => ⟨hW.at h (fun h => h), hno _ hlt⟩
    exact ⟨go b1 (by omega), go b0 (by omega), go b2 (by omega), go b3 (by omega), go b4 (by omega), hmv.trans hW, fun k hk => by rcases hO k hk with (h | h) | h <;> omega⟩
  case assign =>
    intro l x W K hK
    gi_wp2
    exact hK
  case body =>
    intro l pre x O W hI hpre hOl hOlp hrec hOO hsz2
    have hst : fsts ls (pre ++ [x]) = fstep ls (fsts ls pre) x := by simp [fsts]
    obtain ⟨xi, hxi, rfl⟩ : ∃ xi : Nat, xi < N ∧ x = xi := mem_idxs (N := N) (back := back) (hpre.subset (by simp))
    obtain ⟨fr, bl, ba, mp, sb, mv, own⟩ := hI
    obtain ⟨L, hstE⟩ : ∃ L, L = fsts ls pre := ⟨_, rfl⟩
    rw [← hstE] at mp hst
    have hlt0 : n₀ ≤ W0.heap.size := by omega
    have hlW : RdL n₀ W A N ls := hl.below (mv.below hlt0 (fun k e => e.elim))
    obtain ⟨ad, rfl, hadlt, hx0, hx1, hx2⟩ := hlW xi hxi
    have HST := Aside0.mk hst
    have fr2 := Aside0.mk fr
    have mp2 := Aside0.mk mp
    have sb2 := Aside0.mk sb
    have bl2 := Aside0.mk bl
    have ba2 := Aside0.mk ba
    have mv2 := Aside0.mk mv
    have OWN := Aside0.mk own
    have HL2 := Aside0.mk (hlW.below ((Below.refl n₀ W).drew))
    have HN := Aside0.mk (show n₀ ≤ W.drew.heap.size from Nat.le_trans hlt0 mv.size)
    have mvW := Aside0.mk (Mv.refl (fun k => ¬ O k) W)
    have HX := Aside0.mk (show ∀ {k : Nat} {o : Obj}, W.heap[k]? = some o → k < W.drew.heap.size from fun h => lt_of_at h)
    clear hst hstE fr mp sb bl ba mv own hlW hOl hl hBm b0 b1 b2 b3 b4 b5 b6 hmv hrec hOO hmm hlt4 hms hx0 hx1 hx2 hlt0
    gi_wp2
    obtain ⟨W2, rfl⟩ : ∃ W2 : World, W2 = W := ⟨_, rfl⟩
    rcases hfi : findIdx keq (lt ls xi) L 0 with _ | ⟨fi, fv⟩
    · have HFI := Aside0.mk hfi
      clear hfi
      refine rg_regionIn (N := 50) 12 (Box1 67 W2.drew.heap.size) (by kernel_rfl) (by kernel_rfl) (by kernel_rfl) (fun _ _ h => h) rfl (Box1.refl _ _) (Box1.trans) ?_
      rw [show List.range 12 = [0, 1, 2, 3, 4, 5, 6, 7, 8, 9, 10, 11] from rfl]
      refine rg_val (.map (some (W0.heap.size + 3))) (Box1.refl _ _) rfl (fun _ _ _ _ => wanted_none rfl) ?_ ?_
      · intro a w' hr hs
        have h5 := hs.out 6 (by kernel_rfl)
        have hc := cell_at (hr.at sb2.out.1 (HX.out sb2.out.1)) 0
        go_simp
      refine rg_val (.slice (some ad) N c) (Box1.refl _ _) rfl (fun _ _ _ _ => wanted_none rfl) ?_ ?_
      · intro a w' hr hs
        have h5 := hs.out 3 (by kernel_rfl)
        have hc := cell_at (hr.at bl2.out.1 (HX.out bl2.out.1)) 0
        go_simp
      refine rg_val (.int .i64 xi) (Box1.refl _ _) rfl (fun _ _ _ _ => wanted_none rfl) ?_ ?_
      · intro a w' hr hs
        have h5 := hs.out 7 (by kernel_rfl)
        go_simp
      refine rg_val (.pointer (some (ad.add (xi * 3)))) (Box1.refl _ _) rfl (fun _ _ _ _ => wanted_none rfl) ?_ ?_
      · intro a w' hr hs
        have h5 := hs.get 1 rfl (by kernel_rfl) rfl
        have h6 := hs.get 0 rfl (by kernel_rfl) rfl
        simp only at h5 h6
        go_simp
      refine rg_val (.agg #[.bool (ls xi).1, .string (ls xi).2.1, .int .i64 (ls xi).2.2]) (Box1.refl _ _) rfl (fun _ _ _ _ => wanted_none rfl) ?_ ?_
      · intro a w' hr hs
        have h5 := hs.get 0 rfl (by kernel_rfl) rfl
        simp only at h5
        have hu := Try.underlying37
        obtain ⟨ad', e1, _, x0, x1, x2⟩ := (HL2.out.below (hr.mv.below HN.out (fun k h => Nat.le_trans HN.out h))) xi hxi
        cases e1
        go_simp
      refine rg_call (fun v _ => v = kenc (lt ls xi)) (fun _ _ _ _ h => h) rfl rfl Try.func43 (by kernel_rfl) rfl (fun _ _ _ _ => wanted_none rfl) ?_ ?_
      · intro a w' hr hs
        have h5 := hs.get 0 rfl (by kernel_rfl) rfl
        simp only at h5
        have h6 : (#[Operand.tmp 24] : Array Operand).map a.eval = #[.agg #[.bool (ls xi).1, .string (ls xi).2.1, .int .i64 (ls xi).2.2]] := by simp [Act.eval, h5]
        rw [h6]
        refine (of_calls _ _ _ _).mono ?_
        rintro e w2 ⟨rfl, hb⟩
        exact ⟨_, rfl, Box1.of_below hb, rfl⟩
      refine rg_val ((.tuple #[(venc 0), .bool false])) (Box1.refl _ _) rfl (fun _ _ _ _ => wanted_none rfl) ?_ ?_
      · intro a w' hr hs
        have h5 := hs.get 5 rfl (by kernel_rfl) rfl
        have h6 := hs.get 0 rfl (by kernel_rfl) rfl
        simp only at h5 h6
        have hlk := lookup_ok (T := 62) letter_law Try.underlying62 zero_place (hr.at mp2.out.1 (HX.out mp2.out.1)) (lt ls xi)
        rw [HFI.out] at hlk
        simp only at hlk
        go_simp
      refine rg_val ((.tuple #[(venc 0), .bool false])) (Box1.refl _ _) rfl (fun _ _ _ _ => wanted_none rfl) ?_ ?_
      · intro a w' hr hs
        have h5 := hs.get 0 rfl (by kernel_rfl) rfl
        simp only at h5
        go_simp
      refine rg_val ((venc 0)) (Box1.refl _ _) rfl (fun _ _ _ _ => wanted_none rfl) ?_ ?_
      · intro a w' hr hs
        have h5 := hs.get 0 rfl (by kernel_rfl) rfl
        simp only at h5
        go_simp
      refine rg_val (.bool false) (Box1.refl _ _) rfl (fun _ _ _ _ => wanted_none rfl) ?_ ?_
      · intro a w' hr hs
        have h5 := hs.get 1 rfl (by kernel_rfl) rfl
        simp only at h5
        go_simp
      refine rg_run (fun v w => ∃ g, v = .pointer (some ⟨g, 0, none⟩) ∧ W2.drew.heap.size ≤ g ∧ ∃ c, w.heap[g]? = some (.cells #[c] 67 (0, 0))) (fun v w w' hr h => by obtain ⟨g, h1, h2, c, h3⟩ := h; exact ⟨g, h1, h2, hr.box g c h2 h3⟩) rfl (fun _ _ _ _ => wanted_none rfl) ?_ ?_
      · intro a w' hr hs
        refine ⟨.pointer (some ⟨w'.heap.size, 0, none⟩), w'.alloc (.cells #[.int .i64 0] 67), ?_, ⟨(Mv.refl _ _).alloc _, fun g c _ h => ⟨c, at_alloc h _⟩⟩, ⟨_, rfl, hr.mv.size, _, at_new _ _ rfl⟩⟩
        have hz := zero_place
        unfold venc at hz
        go_simp
      refine rg_skip (fun _ => True) (fun _ _ _ _ => trivial) rfl (fun _ _ _ _ => wanted_none rfl) ?_ ?_
      · intro a w' hr hs
        obtain ⟨g, h1, h2, c, h3⟩ := hs.get 0 rfl (by kernel_rfl) rfl
        have h4 := hs.get 2 rfl (by kernel_rfl) rfl
        simp only at h1 h4
        have hc := cell_at h3 0
        have hf := free_at h3 0
        have hu := Try.underlying67
        refine ⟨w'.setCell ⟨g, 0, none⟩ (.int .i64 0), ?_, ⟨(Mv.refl _ _).setCell (.inl h2) _, fun g' c' hg' h' => ?_⟩, trivial⟩
        · unfold venc at h4
          go_simp
        · by_cases hgg : g' = g
          · subst hgg; exact ⟨_, by simpa using set_at h' 0 _⟩
          · exact ⟨c', at_set h' hgg _⟩
      intro vs w3 hr hE
      rw [show List.range 12 = [0, 1, 2, 3, 4, 5, 6, 7, 8, 9, 10, 11] from rfl]
      simp only [List.mem_cons, List.not_mem_nil, or_false, forall_eq_or_imp, forall_eq] at hE
      obtain ⟨_, ⟨gx, hg1, hg2, _⟩, g9, g8, g7, g6, g5, g4, g3, g2, g1, g0⟩ := hE
      simp only [putL, slotOf, List.getElem?_toArray, List.getElem?_cons_succ, List.getElem?_cons_zero, Option.bind_some, Act.put, List.setIfInBounds_toArray, List.set_cons_succ, List.set_cons_zero, hg1, g9, g8, g7, g6, g5, g4, g3, g2, g1, g0]
      refine tail_val (i := 12) (r := []) (w' := w3) (.bool false) rfl (wanted_none rfl) (by go_simp) (tail_end ?_)
      clear hg1 g9 g8 g7 g6 g5 g4 g3 g2 g1 g0
      simp only [Act.put, List.setIfInBounds_toArray, List.set_cons_succ, List.set_cons_zero]
      have hXX : ∀ {k : Nat} {o : Obj}, Mine k o O W2 → Mine k o O w3 := fun h => ⟨hr.at h.1 (HX.out h.1), h.2⟩
      have mv3 := Aside0.mk (mv2.out.drew.trans (hr.mv.mono (fun k h1 h2 => absurd h1 (Nat.not_lt.2 h2))))
      have mvW3 := Aside0.mk (mvW.out.drew.trans (hr.mv.mono (fun k h1 h2 => absurd h1 (Nat.not_lt.2 h2))))
      have fr3 := Aside0.mk (hXX fr2.out)
      have mp3 := Aside0.mk (hXX mp2.out)
      have sb3 := Aside0.mk (hXX sb2.out)
      have ba3 := Aside0.mk (hXX ba2.out)
      have bl3 := Aside0.mk (hXX bl2.out)
      have HL3 := Aside0.mk ((HL2.out.below (hr.mv.below HN.out (fun k h => Nat.le_trans HN.out h))).below ((Below.refl n₀ w3).drew))
      have HN3 := Aside0.mk (Nat.le_trans HN.out hr.mv.size)
      clear hXX hr
      gi_wp2
      refine rg_regionIn (N := 50) 8 (Box1 67 w3.drew.heap.size) (by kernel_rfl) (by kernel_rfl) (by kernel_rfl) (fun _ _ h => h) rfl (Box1.refl _ _) (Box1.trans) ?_
      rw [show List.range 8 = [0, 1, 2, 3, 4, 5, 6, 7] from rfl]
      refine rg_val (.map (some (W0.heap.size + 3))) (Box1.refl _ _) rfl (fun _ _ _ _ => wanted_none rfl) ?_ ?_
      · intro a w' hr hs
        have h5 := hs.out 6 (by kernel_rfl)
        have hc := cell_at (hr.at sb3.out.1 (lt_of_at sb3.out.1)) 0
        go_simp
      refine rg_val (.slice (some ad) N c) (Box1.refl _ _) rfl (fun _ _ _ _ => wanted_none rfl) ?_ ?_
      · intro a w' hr hs
        have h5 := hs.out 3 (by kernel_rfl)
        have hc := cell_at (hr.at bl3.out.1 (lt_of_at bl3.out.1)) 0
        go_simp
      refine rg_val (.int .i64 xi) (Box1.refl _ _) rfl (fun _ _ _ _ => wanted_none rfl) ?_ ?_
      · intro a w' hr hs
        have h5 := hs.out 7 (by kernel_rfl)
        go_simp
      refine rg_val (.pointer (some (ad.add (xi * 3)))) (Box1.refl _ _) rfl (fun _ _ _ _ => wanted_none rfl) ?_ ?_
      · intro a w' hr hs
        have h5 := hs.get 1 rfl (by kernel_rfl) rfl
        have h6 := hs.get 0 rfl (by kernel_rfl) rfl
        simp only at h5 h6
        go_simp
      refine rg_val (.agg #[.bool (ls xi).1, .string (ls xi).2.1, .int .i64 (ls xi).2.2]) (Box1.refl _ _) rfl (fun _ _ _ _ => wanted_none rfl) ?_ ?_
      · intro a w' hr hs
        have h5 := hs.get 0 rfl (by kernel_rfl) rfl
        simp only at h5
        have hu := Try.underlying37
        obtain ⟨ad', e1, _, x0, x1, x2⟩ := (HL3.out.below (hr.mv.below HN3.out (fun k h => Nat.le_trans HN3.out h))) xi hxi
        cases e1
        go_simp
      refine rg_call (fun v _ => v = kenc (lt ls xi)) (fun _ _ _ _ h => h) rfl rfl Try.func43 (by kernel_rfl) rfl (fun _ _ _ _ => wanted_none rfl) ?_ ?_
      · intro a w' hr hs
        have h5 := hs.get 0 rfl (by kernel_rfl) rfl
        simp only at h5
        have h6 : (#[Operand.tmp 35] : Array Operand).map a.eval = #[.agg #[.bool (ls xi).1, .string (ls xi).2.1, .int .i64 (ls xi).2.2]] := by simp [Act.eval, h5]
        rw [h6]
        refine (of_calls _ _ _ _).mono ?_
        rintro e w2 ⟨rfl, hb⟩
        exact ⟨_, rfl, Box1.of_below hb, rfl⟩
      refine rg_val (.int .i64 xi) (Box1.refl _ _) rfl (fun _ _ _ _ => wanted_none rfl) ?_ ?_
      · intro a w' hr hs
        have h5 := hs.out 7 (by kernel_rfl)
        go_simp
      refine rg_val (venc xi) (Box1.refl _ _) rfl (fun _ _ _ _ => wanted_none rfl) ?_ ?_
      · intro a w' hr hs
        have h5 := hs.get 0 rfl (by kernel_rfl) rfl
        simp only at h5
        have hu := Try.underlying67
        unfold venc
        go_simp
      intro vs w4 hr hE
      rw [show List.range 8 = [0, 1, 2, 3, 4, 5, 6, 7] from rfl]
      simp only [List.mem_cons, List.not_mem_nil, or_false, forall_eq_or_imp, forall_eq] at hE
      obtain ⟨g7, g6, g5, g4, g3, g2, g1, g0⟩ := hE
      simp only [putL, slotOf, List.getElem?_toArray, List.getElem?_cons_succ, List.getElem?_cons_zero, Option.bind_some, Act.put, List.setIfInBounds_toArray, List.set_cons_succ, List.set_cons_zero, g7, g6, g5, g4, g3, g2, g1, g0]
      clear g7 g6 g5 g4 g3 g2 g1 g0
      have hXX : ∀ {k : Nat} {o : Obj}, Mine k o O w3 → Mine k o O w4 := fun h => ⟨hr.at h.1 (lt_of_at h.1), h.2⟩
      have hup := update_run (P := Try.prog) (T := 62) letter_law Try.underlying62 (hXX mp3.out).1 (lt ls xi) (xi : Int)
      obtain ⟨w5, hw5⟩ : ∃ w5 : World, w5 = w4.putObj (W0.heap.size + 3) (MapObj kenc venc (upd keq (lt ls xi) (xi : Int) L.length L).1 (upd keq (lt ls xi) (xi : Int) L.length L).2) := ⟨_, rfl⟩
      rw [← hw5] at hup
      have hUP := hup
      refine tail_skip (i := 8) (r := []) (w' := w5) rfl (wanted_none rfl) (by go_simp) (tail_end ?_)
      have mv4 := Aside0.mk (show Mv (fun _ => False) W0 w5 by rw [hw5]; exact (mv3.out.drew.trans (hr.mv.mono (fun k h1 h2 => absurd h1 (Nat.not_lt.2 h2)))).putObj (.inr (by omega)) _)
      have mvW4 := Aside0.mk (show Mv (fun k => ¬ O k) W2 w5 by rw [hw5]; exact (mvW3.out.drew.trans (hr.mv.mono (fun k h1 h2 => absurd h1 (Nat.not_lt.2 h2)))).putObj (.inl mp3.out.2) _)
      have fr4 := Aside0.mk (show Mine _ _ O w5 by rw [hw5]; exact (hXX fr3.out).put (by omega) _)
      have mp4 := Aside0.mk (show Mine _ _ O w5 by rw [hw5]; exact ⟨World.putObj_heap_same (lt_of_at (hXX mp3.out).1), mp3.out.2⟩)
      have sb4 := Aside0.mk (show Mine _ _ O w5 by rw [hw5]; exact (hXX sb3.out).put (by omega) _)
      have ba4 := Aside0.mk (show Mine _ _ O w5 by rw [hw5]; exact (hXX ba3.out).put (by omega) _)
      have bl4 := Aside0.mk (show Mine _ _ O w5 by rw [hw5]; exact (hXX bl3.out).put (by omega) _)
      clear hXX hr hup hUP hw5
      have hs : fsts ls (pre ++ [(xi : Int)]) = L ++ [(lt ls xi, (xi : Int), L.length)] := by rw [HST.out]; simp [fstep, HFI.out]
      have hupd : upd keq (lt ls xi) (xi : Int) L.length L = (L ++ [(lt ls xi, (xi : Int), L.length)], L.length + 1) := by simp [upd, HFI.out]
      have mp5 : Mine (W0.heap.size + 3) (MapObj kenc venc (L ++ [(lt ls xi, (xi : Int), L.length)]) (L ++ [(lt ls xi, (xi : Int), L.length)]).length) O w5 := by
        have := mp4.out
        rw [hupd] at this
        simpa using this
      simp only [Act.put, List.setIfInBounds_toArray, List.set_cons_succ, List.set_cons_zero]
      gi_wp2
      exact ⟨mvW4.out.mono (fun k _ h => by simpa using h), MI.of hs fr4.out bl4.out ba4.out mp5 sb4.out mv4.out OWN.out⟩
    · have HFI := Aside0.mk hfi
      clear hfi
      refine rg_regionIn (N := 50) 12 (Box1 67 W2.drew.heap.size) (by kernel_rfl) (by kernel_rfl) (by kernel_rfl) (fun _ _ h => h) rfl (Box1.refl _ _) (Box1.trans) ?_
      rw [show List.range 12 = [0, 1, 2, 3, 4, 5, 6, 7, 8, 9, 10, 11] from rfl]
      refine rg_val (.map (some (W0.heap.size + 3))) (Box1.refl _ _) rfl (fun _ _ _ _ => wanted_none rfl) ?_ ?_
      · intro a w' hr hs
        have h5 := hs.out 6 (by kernel_rfl)
        have hc := cell_at (hr.at sb2.out.1 (HX.out sb2.out.1)) 0
        go_simp
      refine rg_val (.slice (some ad) N c) (Box1.refl _ _) rfl (fun _ _ _ _ => wanted_none rfl) ?_ ?_
      · intro a w' hr hs
        have h5 := hs.out 3 (by kernel_rfl)
        have hc := cell_at (hr.at bl2.out.1 (HX.out bl2.out.1)) 0
        go_simp
      refine rg_val (.int .i64 xi) (Box1.refl _ _) rfl (fun _ _ _ _ => wanted_none rfl) ?_ ?_
      · intro a w' hr hs
        have h5 := hs.out 7 (by kernel_rfl)
        go_simp
      refine rg_val (.pointer (some (ad.add (xi * 3)))) (Box1.refl _ _) rfl (fun _ _ _ _ => wanted_none rfl) ?_ ?_
      · intro a w' hr hs
        have h5 := hs.get 1 rfl (by kernel_rfl) rfl
        have h6 := hs.get 0 rfl (by kernel_rfl) rfl
        simp only at h5 h6
        go_simp
      refine rg_val (.agg #[.bool (ls xi).1, .string (ls xi).2.1, .int .i64 (ls xi).2.2]) (Box1.refl _ _) rfl (fun _ _ _ _ => wanted_none rfl) ?_ ?_
      · intro a w' hr hs
        have h5 := hs.get 0 rfl (by kernel_rfl) rfl
        simp only at h5
        have hu := Try.underlying37
        obtain ⟨ad', e1, _, x0, x1, x2⟩ := (HL2.out.below (hr.mv.below HN.out (fun k h => Nat.le_trans HN.out h))) xi hxi
        cases e1
        go_simp
      refine rg_call (fun v _ => v = kenc (lt ls xi)) (fun _ _ _ _ h => h) rfl rfl Try.func43 (by kernel_rfl) rfl (fun _ _ _ _ => wanted_none rfl) ?_ ?_
      · intro a w' hr hs
        have h5 := hs.get 0 rfl (by kernel_rfl) rfl
        simp only at h5
        have h6 : (#[Operand.tmp 24] : Array Operand).map a.eval = #[.agg #[.bool (ls xi).1, .string (ls xi).2.1, .int .i64 (ls xi).2.2]] := by simp [Act.eval, h5]
        rw [h6]
        refine (of_calls _ _ _ _).mono ?_
        rintro e w2 ⟨rfl, hb⟩
        exact ⟨_, rfl, Box1.of_below hb, rfl⟩
      refine rg_val ((.tuple #[(venc fv), .bool true])) (Box1.refl _ _) rfl (fun _ _ _ _ => wanted_none rfl) ?_ ?_
      · intro a w' hr hs
        have h5 := hs.get 5 rfl (by kernel_rfl) rfl
        have h6 := hs.get 0 rfl (by kernel_rfl) rfl
        simp only at h5 h6
        have hlk := lookup_ok (T := 62) letter_law Try.underlying62 zero_place (hr.at mp2.out.1 (HX.out mp2.out.1)) (lt ls xi)
        rw [HFI.out] at hlk
        simp only at hlk
        go_simp
      refine rg_val ((.tuple #[(venc fv), .bool true])) (Box1.refl _ _) rfl (fun _ _ _ _ => wanted_none rfl) ?_ ?_
      · intro a w' hr hs
        have h5 := hs.get 0 rfl (by kernel_rfl) rfl
        simp only at h5
        go_simp
      refine rg_val ((venc fv)) (Box1.refl _ _) rfl (fun _ _ _ _ => wanted_none rfl) ?_ ?_
      · intro a w' hr hs
        have h5 := hs.get 0 rfl (by kernel_rfl) rfl
        simp only at h5
        go_simp
      refine rg_val (.bool true) (Box1.refl _ _) rfl (fun _ _ _ _ => wanted_none rfl) ?_ ?_
      · intro a w' hr hs
        have h5 := hs.get 1 rfl (by kernel_rfl) rfl
        simp only at h5
        go_simp
      refine rg_run (fun v w => ∃ g, v = .pointer (some ⟨g, 0, none⟩) ∧ W2.drew.heap.size ≤ g ∧ ∃ c, w.heap[g]? = some (.cells #[c] 67 (0, 0))) (fun v w w' hr h => by obtain ⟨g, h1, h2, c, h3⟩ := h; exact ⟨g, h1, h2, hr.box g c h2 h3⟩) rfl (fun _ _ _ _ => wanted_none rfl) ?_ ?_
      · intro a w' hr hs
        refine ⟨.pointer (some ⟨w'.heap.size, 0, none⟩), w'.alloc (.cells #[.int .i64 0] 67), ?_, ⟨(Mv.refl _ _).alloc _, fun g c _ h => ⟨c, at_alloc h _⟩⟩, ⟨_, rfl, hr.mv.size, _, at_new _ _ rfl⟩⟩
        have hz := zero_place
        unfold venc at hz
        go_simp
      refine rg_skip (fun _ => True) (fun _ _ _ _ => trivial) rfl (fun _ _ _ _ => wanted_none rfl) ?_ ?_
      · intro a w' hr hs
        obtain ⟨g, h1, h2, c, h3⟩ := hs.get 0 rfl (by kernel_rfl) rfl
        have h4 := hs.get 2 rfl (by kernel_rfl) rfl
        simp only at h1 h4
        have hc := cell_at h3 0
        have hf := free_at h3 0
        have hu := Try.underlying67
        refine ⟨w'.setCell ⟨g, 0, none⟩ (.int .i64 fv), ?_, ⟨(Mv.refl _ _).setCell (.inl h2) _, fun g' c' hg' h' => ?_⟩, trivial⟩
        · unfold venc at h4
          go_simp
        · by_cases hgg : g' = g
          · subst hgg; exact ⟨_, by simpa using set_at h' 0 _⟩
          · exact ⟨c', at_set h' hgg _⟩
      intro vs w3 hr hE
      rw [show List.range 12 = [0, 1, 2, 3, 4, 5, 6, 7, 8, 9, 10, 11] from rfl]
      simp only [List.mem_cons, List.not_mem_nil, or_false, forall_eq_or_imp, forall_eq] at hE
      obtain ⟨_, ⟨gx, hg1, hg2, _⟩, g9, g8, g7, g6, g5, g4, g3, g2, g1, g0⟩ := hE
      simp only [putL, slotOf, List.getElem?_toArray, List.getElem?_cons_succ, List.getElem?_cons_zero, Option.bind_some, Act.put, List.setIfInBounds_toArray, List.set_cons_succ, List.set_cons_zero, hg1, g9, g8, g7, g6, g5, g4, g3, g2, g1, g0]
      refine tail_val (i := 12) (r := []) (w' := w3) (.bool true) rfl (wanted_none rfl) (by go_simp) (tail_end ?_)
      clear hg1 g9 g8 g7 g6 g5 g4 g3 g2 g1 g0
      simp only [Act.put, List.setIfInBounds_toArray, List.set_cons_succ, List.set_cons_zero]
      have hXX : ∀ {k : Nat} {o : Obj}, Mine k o O W2 → Mine k o O w3 := fun h => ⟨hr.at h.1 (HX.out h.1), h.2⟩
      have mv3 := Aside0.mk (mv2.out.drew.trans (hr.mv.mono (fun k h1 h2 => absurd h1 (Nat.not_lt.2 h2))))
      have mvW3 := Aside0.mk (mvW.out.drew.trans (hr.mv.mono (fun k h1 h2 => absurd h1 (Nat.not_lt.2 h2))))
      have fr3 := Aside0.mk (hXX fr2.out)
      have mp3 := Aside0.mk (hXX mp2.out)
      have sb3 := Aside0.mk (hXX sb2.out)
      have ba3 := Aside0.mk (hXX ba2.out)
      have bl3 := Aside0.mk (hXX bl2.out)
      have HL3 := Aside0.mk ((HL2.out.below (hr.mv.below HN.out (fun k h => Nat.le_trans HN.out h))).below ((Below.refl n₀ w3).drew))
      have HN3 := Aside0.mk (Nat.le_trans HN.out hr.mv.size)
      clear hXX hr
      gi_wp2
      have hs : fsts ls (pre ++ [(xi : Int)]) = L := by rw [HST.out]; simp [fstep, HFI.out]
      exact ⟨mvW3.out.mono (fun k _ h => by simpa using h), MI.of hs fr3.out bl3.out ba3.out mp3.out sb3.out mv3.out OWN.out⟩
  case done =>
    intro D xs O W hD hOD hOl hS hI hK
    subst hS
    obtain ⟨fr, bl, ba, mp, sb, mv, own⟩ := hI
    obtain ⟨F, hF⟩ : ∃ F, F = fsts ls (idxs N back) := ⟨_, rfl⟩
    have hborn := fsts_born ls (idxs N back)
    rw [← hF] at mp hborn
    have hnd : (F.map (·.2.2)).Nodup := by rw [hborn]; exact List.nodup_range
    have hlt : ∀ e ∈ F, e.2.2 < F.length := fun e he => by
      have : e.2.2 ∈ F.map (·.2.2) := List.mem_map.2 ⟨e, he, rfl⟩
      rw [hborn] at this; exact List.mem_range.1 this
    have hfin : ∀ (seen : Array Nat), left seen F = [] → rowAt ls N back F ms (fun b => seen.contains b) = marked ls N back ms := fun seen hs => by
      unfold marked
      rw [← hF, rowAt_end ls N back F ms _ (fun e he => ?_)]
      have h2 := List.filter_eq_nil_iff.1 hs e he
      simpa using h2
    have rowm : W.heap[Bm]? = some (.cells (ms.map Value.bool).toArray 58 (0, 0)) := mv.at hBm (fun h => h)
    have hlW : RdL n₀ W A N ls := hl.below (mv.below (by omega) (fun k e => e.elim))
    have hW0 : W0.heap.size ≤ W.heap.size := mv.size
    have q0 := lt_of_at bl.1
    have q1 := lt_of_at fr.1
    have q2 := lt_of_at ba.1
    have q3 := lt_of_at mp.1
    have q4 := lt_of_at sb.1
    have q5 := lt_of_at hK
    have hDW : W0.heap.size + 4 < D := by omega
    have hDB : D ≠ Bm := by omega
    have hn0W : n₀ ≤ W.heap.size := by omega
    have HN0W := Aside0.mk hn0W
    have HDB := Aside0.mk hDB
    clear hn0W hDB
    have c4 := cell_at sb.1 0
    simp only [List.getElem?_toArray, List.getElem?_cons_zero] at c4
    have hrange := range_run (P := Try.prog) (T := 62) Try.underlying62 mp.1
    have HF := Aside0.mk hF
    have HND := Aside0.mk hnd
    have HLT2 := Aside0.mk hlt
    have HFIN := Aside0.mk hfin
    have BL := Aside0.mk bl.1
    have FR := Aside0.mk fr.1
    have BA := Aside0.mk ba.1
    have MP := Aside0.mk mp.1
    have ROW := Aside0.mk rowm
    have MV := Aside0.mk (mv.mono (O' := fun k => k = Bm) (fun _ _ h => h.elim))
    have HK := Aside0.mk hK
    have HLW := Aside0.mk hlW
    have HMS := Aside0.mk hms
    have HBM := Aside0.mk hlt4
    clear hF hborn hnd hlt hfin bl fr ba mp sb rowm mv own hK hlW hl hBm b0 b1 b2 b3 b4 b5 b6 hmv hmm hOl hms hlt4
    gi_wp2
    obtain ⟨W2, hW2⟩ : ∃ W2 : World, W2 = W.alloc (.mapIter (some (W0.heap.size + 3)) F.length #[] F.length) := ⟨_, rfl⟩
    obtain ⟨R, hR⟩ : ∃ R : Nat, R = W.heap.size := ⟨_, rfl⟩
    rw [← hW2]
    try rw [← hR]
    gi_loopw [42] (fun _ wr => ∃ seen : Array Nat, Aside0 (wr.heap[R]? = some (.mapIter (some (W0.heap.size + 3)) F.length seen F.length) ∧ Mv (fun k => k = Bm) W0 wr ∧ wr.heap[W0.heap.size]? = some (.cells #[.slice A N c] 22 (0, 0)) ∧ wr.heap[W0.heap.size + 1]? = some (.cells #[.slice (some ⟨Bm, 0, none⟩) N cm] 55 (0, 0)) ∧
        wr.heap[W0.heap.size + 2]? = some (.cells #[.bool back] 4 (0, 0)) ∧ wr.heap[W0.heap.size + 3]? = some (MapObj kenc venc F F.length) ∧ wr.heap[D]? = some (.deferred (some [])) ∧ RdL n₀ wr A N ls ∧
        wr.heap[Bm]? = some (.cells ((rowAt ls N back F ms (fun b => seen.contains b)).map Value.bool).toArray 58 (0, 0))))
      (fun _ wr => (left (seenAt R wr) F).length)
    case atStart =>
      refine ⟨#[], ⟨?_, ?_, ?_, ?_, ?_, ?_, ?_, ?_, ?_⟩⟩
      · rw [hW2, hR]; exact at_new _ _ rfl
      · rw [hW2]; exact MV.out.alloc _
      · rw [hW2]; exact at_alloc BL.out _
      · rw [hW2]; exact at_alloc FR.out _
      · rw [hW2]; exact at_alloc BA.out _
      · rw [hW2]; exact at_alloc MP.out _
      · rw [hW2]; exact at_alloc HK.out _
      · rw [hW2]; exact HLW.out.below ((Below.refl n₀ W).alloc HN0W.out _)
      · rw [hW2]
        have h0 : (fun b => (#[] : Array Nat).contains b) = fun _ => false := by funext b; simp
        rw [h0, rowAt_start ls N back F ms HMS.out]
        exact at_alloc ROW.out _
    case round =>
      have HRL := Aside0.mk (show W0.heap.size + 4 < R ∧ Bm ≠ R ∧ D ≠ R ∧ n₀ ≤ R from by rw [hR]; exact ⟨q4, fun e => by have := lt_of_at ROW.out; omega, fun e => by omega, HN0W.out⟩)
      clear hW2 hR BL FR BA MP ROW MV HK HLW hrange c4 q0 q1 q2 q3 q4 q5
      obtain ⟨seen, ⟨hit, mv, bl, fr, ba, mp, hd, hlw, row⟩⟩ := hrel
      have hnx := next_run (P := Try.prog) 0 mp hit HLT2.out
      by_cases hleft : left seen F = []
      · have hnext := hnx.1 hleft
        have HROW := Aside0.mk row
        have HMV := Aside0.mk mv
        have HD := Aside0.mk hd
        have HLE := Aside0.mk hleft
        clear hnx hleft hit mv bl fr ba mp hd hlw row
        gi_wp2
        refine ⟨by simp, .inl ⟨_, _, rfl, run_takeDeferred HD.out, ?_⟩⟩
        refine ⟨_, results_none rfl _ _ _, rfl, HMV.out.putObj (.inr (by omega)) _, ?_⟩
        have := HROW.out
        rw [HFIN.out seen HLE.out] at this
        exact at_put this (fun e => HDB.out e.symm) _
      · obtain ⟨e, he, w1, hw1, hnext⟩ := hnx.2 hleft
        obtain ⟨w2, hw2⟩ : ∃ w2 : World, w2 = w1.putObj R (.mapIter (some (W0.heap.size + 3)) F.length (seen.push e.2.2) F.length) := ⟨_, rfl⟩
        have hwr : ∀ {k : Nat} {o : Obj}, wr.heap[k]? = some o → k ≠ R → w2.heap[k]? = some o := fun h hk => by rw [hw2]; rcases hw1 with rfl | rfl <;> exact at_put h hk _
        obtain ⟨r1, r2, r3, r4⟩ := HRL.out
        have hit2 : w2.heap[R]? = some (.mapIter (some (W0.heap.size + 3)) F.length (seen.push e.2.2) F.length) := by rw [hw2]; exact World.putObj_heap_same (by rcases hw1 with rfl | rfl <;> exact lt_of_at hit)
        have hs2 : wr.heap.size ≤ w2.heap.size := by rw [hw2]; rcases hw1 with rfl | rfl <;> simp
        have mv2 : Mv (fun k => k = Bm) W0 w2 := by
          rw [hw2]
          refine Mv.putObj ?_ (.inr (by omega)) _
          rcases hw1 with rfl | rfl
          · exact mv
          · exact mv.drew
        have hl2 : RdL n₀ w2 A N ls := hlw.below (by rw [hw2]; rcases hw1 with rfl | rfl; exact ((Mv.refl (fun k => k = R) _).putObj (.inl rfl) _).below (by have := lt_of_at hit; omega) (fun k h => by omega); exact ((Mv.refl (fun k => k = R) _).drew.putObj (.inl rfl) _).below (by have := lt_of_at hit; omega) (fun k h => by omega))
        have hent := entry_run (P := Try.prog) (hwr mp (by omega)) hit2 (List.mem_filter.1 he).1 HND.out
        rw [← hw2] at hnext
        have bl2 := hwr bl (by omega)
        have fr2 := hwr fr (by omega)
        have ba2 := hwr ba (by omega)
        have mp2 := hwr mp (by omega)
        have hd2 := hwr hd r3
        have row2 := hwr row r2
        have hz := zero_place
        unfold venc at hz hnext hent
        have hu := Try.underlying67
        have BL := Aside0.mk bl2
        have FR := Aside0.mk fr2
        have BA := Aside0.mk ba2
        have MP := Aside0.mk mp2
        have HD := Aside0.mk hd2
        have ROW := Aside0.mk row2
        have MV := Aside0.mk mv2
        have HLW := Aside0.mk hl2
        have IT := Aside0.mk hit2
        have HE := Aside0.mk he
        have HSE := Aside0.mk (show seenAt R wr = seen by unfold seenAt; rw [hit])
        clear hnx hleft hit mv bl fr ba mp hd hlw row hw1 hw2 hwr r1 r2 r3 r4 hit2 hs2 mv2 hl2 bl2 fr2 ba2 mp2 hd2 row2 he
        gi_wp2
        have hq1 := lt_of_at BL.out
        have hq2 := HBM.out
        have hlen : (rowAt ls N back F ms (fun b => seen.contains b)).length = N := by simp [rowAt]
        refine ⟨trivial, ((callsIn_wide (n := 4)).2 (each_calls n₀ N c hN A ls back e.2.1 (rowAt ls N back F ms (fun b => seen.contains b)) hlen (w2.alloc (.cells #[.int .i64 e.2.1] 67)) W0.heap.size (W0.heap.size + 1 + 1) (W0.heap.size + 1) Bm cm
          (HLW.out.below ((Below.refl n₀ w2).alloc (by omega) _)) hn₀ (by omega) (by omega) (by omega) (at_alloc BL.out _) (at_alloc BA.out _) (at_alloc FR.out _) (at_alloc ROW.out _))).mono ?_⟩
        rintro e' w4 ⟨rfl, hm4, hrow4⟩
        have HM4 := Aside0.mk hm4
        have HROW4 := Aside0.mk hrow4
        have HQ := Aside0.mk (And.intro hq1 hq2)
        have HWR := Aside0.mk (show ∀ {k : Nat} {o : Obj}, w2.heap[k]? = some o → k ≠ Bm → w4.heap[k]? = some o from fun h hk => hm4.at (at_alloc h _) hk)
        clear hm4 hrow4 hlen hent hnext hq1 hq2
        gi_wp2
        go_roundw
        case rel =>
          obtain ⟨r1, r2, r3, r4⟩ := HRL.out
          obtain ⟨hq1, hq2⟩ := HQ.out
          refine ⟨seen.push e.2.2, ⟨HWR.out IT.out (fun e => r2 e.symm), (MV.out.alloc _).trans HM4.out, HWR.out BL.out (by omega), HWR.out FR.out (by omega), HWR.out BA.out (by omega), HWR.out MP.out (by omega), HWR.out HD.out HDB.out, ?_, ?_⟩⟩
          · exact HLW.out.below (((Below.refl n₀ w2).alloc (by omega) _).trans (HM4.out.below (by simp; omega) (fun k h => by omega)))
          · have h1 : (fun b => (seen.push e.2.2).contains b) = fun b => seen.contains b || b == e.2.2 := by
              funext b
              by_cases hb : b = e.2.2 <;> simp [hb, Array.contains_push]
            rw [h1, ← rowAt_step ls N back F ms _ e (List.mem_filter.1 HE.out).1 HND.out]
            exact HROW4.out
        case measure =>
          have h1 : seenAt R w4 = seen.push e.2.2 := by unfold seenAt; rw [HWR.out IT.out (fun e => HRL.out.2.1 e.symm)]
          rw [h1, HSE.out]
          exact left_push HE.out
end Go.Proofs.YtokfalcmkmelpaaHChain
